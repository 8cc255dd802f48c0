import Derived.Test.YtchhelmilbheoaaDoorZRXx0
namespace Go.Proofs.YtchhelmilbheoaaDoor.X
open Go.RowKit Go.Proofs.YtchhelmilbheoaaDoorW.PrintWords Go.Proofs.YtchhelmilbheoaaDoorW.PrintLast Go.Proofs.YtchhelmilbheoaaDoorW.PrintMore
attribute [local go_sem] max2_int min2_int max_two min_two max_three min_three max_four min_four   -- for this text's walks alone
open Go.Proofs.YtchhelmilbheoaaDoorW.HandWords
set_option linter.unusedVariables false
set_option linter.unusedSimpArgs false
def redlineref17_Command.f (a0 : ByteArray) (a1 : ByteArray) : Option (Int) := if 7 + a1.size ≤ 9223372036854775807 then (if ((⟨#[35, 105, 102, 100, 101, 102, 32]⟩ : ByteArray) ++ a1).size + 1 ≤ 9223372036854775807 then (if a0.toList = (((⟨#[35, 105, 102, 100, 101, 102, 32]⟩ : ByteArray) ++ a1) ++ (⟨#[10]⟩ : ByteArray)).toList then (some 1) else (if 8 + a1.size ≤ 9223372036854775807 then (if ((⟨#[35, 105, 102, 110, 100, 101, 102, 32]⟩ : ByteArray) ++ a1).size + 1 ≤ 9223372036854775807 then (if a0.toList = (((⟨#[35, 105, 102, 110, 100, 101, 102, 32]⟩ : ByteArray) ++ a1) ++ (⟨#[10]⟩ : ByteArray)).toList then (some 2) else (if 9 + a1.size ≤ 9223372036854775807 then (if ((⟨#[35, 101, 108, 115, 101, 32, 47, 42, 32]⟩ : ByteArray) ++ a1).size + 4 ≤ 9223372036854775807 then (if a0.toList = (((⟨#[35, 101, 108, 115, 101, 32, 47, 42, 32]⟩ : ByteArray) ++ a1) ++ (⟨#[32, 42, 47, 10]⟩ : ByteArray)).toList then (some 3) else (if 10 + a1.size ≤ 9223372036854775807 then (if ((⟨#[35, 101, 110, 100, 105, 102, 32, 47, 42, 32]⟩ : ByteArray) ++ a1).size + 4 ≤ 9223372036854775807 then (if a0.toList = (((⟨#[35, 101, 110, 100, 105, 102, 32, 47, 42, 32]⟩ : ByteArray) ++ a1) ++ (⟨#[32, 42, 47, 10]⟩ : ByteArray)).toList then (some 4) else (if 12 + a1.size ≤ 9223372036854775807 then (if ((⟨#[35, 101, 110, 100, 105, 102, 32, 47, 42, 32, 33, 32]⟩ : ByteArray) ++ a1).size + 4 ≤ 9223372036854775807 then (if a0.toList = (((⟨#[35, 101, 110, 100, 105, 102, 32, 47, 42, 32, 33, 32]⟩ : ByteArray) ++ a1) ++ (⟨#[32, 42, 47, 10]⟩ : ByteArray)).toList then (some 5) else (some 0)) else (none)) else (none))) else (none)) else (none))) else (none)) else (none))) else (none)) else (none))) else (none)) else (none)
set_option maxHeartbeats 8000000 in
set_option maxRecDepth 100000 in
theorem redlineref17_Command.calls (a0 : ByteArray) (a1 : ByteArray) (r : Int) (w : World) (h : redlineref17_Command.f a0 a1 = some r) :
    Calls Tryd.prog 24 #[.string a0, .string a1] w fun e w' => e = .returned (.int .i64 r) ∧ Drawn0 w w' := by
  have H : (if 7 + a1.size ≤ 9223372036854775807 then (if ((⟨#[35, 105, 102, 100, 101, 102, 32]⟩ : ByteArray) ++ a1).size + 1 ≤ 9223372036854775807 then (if a0.toList = (((⟨#[35, 105, 102, 100, 101, 102, 32]⟩ : ByteArray) ++ a1) ++ (⟨#[10]⟩ : ByteArray)).toList then (some 1) else (if 8 + a1.size ≤ 9223372036854775807 then (if ((⟨#[35, 105, 102, 110, 100, 101, 102, 32]⟩ : ByteArray) ++ a1).size + 1 ≤ 9223372036854775807 then (if a0.toList = (((⟨#[35, 105, 102, 110, 100, 101, 102, 32]⟩ : ByteArray) ++ a1) ++ (⟨#[10]⟩ : ByteArray)).toList then (some 2) else (if 9 + a1.size ≤ 9223372036854775807 then (if ((⟨#[35, 101, 108, 115, 101, 32, 47, 42, 32]⟩ : ByteArray) ++ a1).size + 4 ≤ 9223372036854775807 then (if a0.toList = (((⟨#[35, 101, 108, 115, 101, 32, 47, 42, 32]⟩ : ByteArray) ++ a1) ++ (⟨#[32, 42, 47, 10]⟩ : ByteArray)).toList then (some 3) else (if 10 + a1.size ≤ 9223372036854775807 then (if ((⟨#[35, 101, 110, 100, 105, 102, 32, 47, 42, 32]⟩ : ByteArray) ++ a1).size + 4 ≤ 9223372036854775807 then (if a0.toList = (((⟨#[35, 101, 110, 100, 105, 102, 32, 47, 42, 32]⟩ : ByteArray) ++ a1) ++ (⟨#[32, 42, 47, 10]⟩ : ByteArray)).toList then (some 4) else (if 12 + a1.size ≤ 9223372036854775807 then (if ((⟨#[35, 101, 110, 100, 105, 102, 32, 47, 42, 32, 33, 32]⟩ : ByteArray) ++ a1).size + 4 ≤ 9223372036854775807 then (if a0.toList = (((⟨#[35, 101, 110, 100, 105, 102, 32, 47, 42, 32, 33, 32]⟩ : ByteArray) ++ a1) ++ (⟨#[32, 42, 47, 10]⟩ : ByteArray)).toList then (some 5) else (some 0)) else (none)) else (none))) else (none)) else (none))) else (none)) else (none))) else (none)) else (none))) else (none)) else (none)) = some r := h
  clear h
  by_cases c3 : 7 + a1.size ≤ 9223372036854775807
  ·rw [if_pos c3] at H
   have c3b0 := eq_true c3
   have c3b1 : decide (7 + a1.size ≤ 9223372036854775807) = true := decide_eq_true c3
   try have c3b2 : (9223372036854775807 < 7 + a1.size) = False := eq_false (Nat.not_lt.2 c3)
   by_cases c4 : ((⟨#[35, 105, 102, 100, 101, 102, 32]⟩ : ByteArray) ++ a1).size + 1 ≤ 9223372036854775807
   ·rw [if_pos c4] at H
    have c4b0 := eq_true c4
    have c4b1 : decide (((⟨#[35, 105, 102, 100, 101, 102, 32]⟩ : ByteArray) ++ a1).size + 1 ≤ 9223372036854775807) = true := decide_eq_true c4
    try have c4b2 : (9223372036854775807 < ((⟨#[35, 105, 102, 100, 101, 102, 32]⟩ : ByteArray) ++ a1).size + 1) = False := eq_false (Nat.not_lt.2 c4)
    try (have c4b4 := c4b2; simp only [ByteArray.size_append, show (⟨#[32]⟩ : ByteArray).size = 1 from rfl, show (⟨#[35, 105, 102, 100, 101, 102, 32]⟩ : ByteArray).size = 7 from rfl] at c4b4)
    by_cases c5 : a0.toList = (((⟨#[35, 105, 102, 100, 101, 102, 32]⟩ : ByteArray) ++ a1) ++ (⟨#[10]⟩ : ByteArray)).toList
    ·rw [if_pos c5] at H
     have c5b0 : (a0.toList == (((⟨#[35, 105, 102, 100, 101, 102, 32]⟩ : ByteArray) ++ a1) ++ (⟨#[10]⟩ : ByteArray)).toList) = true := beq_iff_eq.mpr c5
     have c5b1 : (a0.toList != (((⟨#[35, 105, 102, 100, 101, 102, 32]⟩ : ByteArray) ++ a1) ++ (⟨#[10]⟩ : ByteArray)).toList) = false := bne_eq_false_iff_eq.mpr c5
     clear c5
     obtain rfl := Option.some.inj H
     go_enter Tryd.func24, Tryd.ntmps24
     go_wp2
     go_ret
     exact ⟨by first | rfl | (simp; done) | (simp [*]; done), by repeat (first | exact Drawn0.refl _ | apply Drawn0.step)⟩
    ·rw [if_neg c5] at H
     have c5b0 : (a0.toList == (((⟨#[35, 105, 102, 100, 101, 102, 32]⟩ : ByteArray) ++ a1) ++ (⟨#[10]⟩ : ByteArray)).toList) = false := beq_eq_false_iff_ne.mpr c5
     have c5b1 : (a0.toList != (((⟨#[35, 105, 102, 100, 101, 102, 32]⟩ : ByteArray) ++ a1) ++ (⟨#[10]⟩ : ByteArray)).toList) = true := bne_iff_ne.mpr c5
     by_cases c6 : 8 + a1.size ≤ 9223372036854775807
     ·rw [if_pos c6] at H
      have c6b0 := eq_true c6
      have c6b1 : decide (8 + a1.size ≤ 9223372036854775807) = true := decide_eq_true c6
      try have c6b2 : (9223372036854775807 < 8 + a1.size) = False := eq_false (Nat.not_lt.2 c6)
      by_cases c7 : ((⟨#[35, 105, 102, 110, 100, 101, 102, 32]⟩ : ByteArray) ++ a1).size + 1 ≤ 9223372036854775807
      ·rw [if_pos c7] at H
       have c7b0 := eq_true c7
       have c7b1 : decide (((⟨#[35, 105, 102, 110, 100, 101, 102, 32]⟩ : ByteArray) ++ a1).size + 1 ≤ 9223372036854775807) = true := decide_eq_true c7
       try have c7b2 : (9223372036854775807 < ((⟨#[35, 105, 102, 110, 100, 101, 102, 32]⟩ : ByteArray) ++ a1).size + 1) = False := eq_false (Nat.not_lt.2 c7)
       try (have c7b4 := c7b2; simp only [ByteArray.size_append, show (⟨#[32]⟩ : ByteArray).size = 1 from rfl, show (⟨#[35, 105, 102, 110, 100, 101, 102, 32]⟩ : ByteArray).size = 8 from rfl] at c7b4)
       by_cases c8 : a0.toList = (((⟨#[35, 105, 102, 110, 100, 101, 102, 32]⟩ : ByteArray) ++ a1) ++ (⟨#[10]⟩ : ByteArray)).toList
       ·rw [if_pos c8] at H
        have c8b0 : (a0.toList == (((⟨#[35, 105, 102, 110, 100, 101, 102, 32]⟩ : ByteArray) ++ a1) ++ (⟨#[10]⟩ : ByteArray)).toList) = true := beq_iff_eq.mpr c8
        have c8b1 : (a0.toList != (((⟨#[35, 105, 102, 110, 100, 101, 102, 32]⟩ : ByteArray) ++ a1) ++ (⟨#[10]⟩ : ByteArray)).toList) = false := bne_eq_false_iff_eq.mpr c8
        clear c8
        obtain rfl := Option.some.inj H
        go_enter Tryd.func24, Tryd.ntmps24
        go_wp2
        go_ret
        exact ⟨by first | rfl | (simp; done) | (simp [*]; done), by repeat (first | exact Drawn0.refl _ | apply Drawn0.step)⟩
       ·rw [if_neg c8] at H
        have c8b0 : (a0.toList == (((⟨#[35, 105, 102, 110, 100, 101, 102, 32]⟩ : ByteArray) ++ a1) ++ (⟨#[10]⟩ : ByteArray)).toList) = false := beq_eq_false_iff_ne.mpr c8
        have c8b1 : (a0.toList != (((⟨#[35, 105, 102, 110, 100, 101, 102, 32]⟩ : ByteArray) ++ a1) ++ (⟨#[10]⟩ : ByteArray)).toList) = true := bne_iff_ne.mpr c8
        by_cases c9 : 9 + a1.size ≤ 9223372036854775807
        ·rw [if_pos c9] at H
         have c9b0 := eq_true c9
         have c9b1 : decide (9 + a1.size ≤ 9223372036854775807) = true := decide_eq_true c9
         try have c9b2 : (9223372036854775807 < 9 + a1.size) = False := eq_false (Nat.not_lt.2 c9)
         by_cases c10 : ((⟨#[35, 101, 108, 115, 101, 32, 47, 42, 32]⟩ : ByteArray) ++ a1).size + 4 ≤ 9223372036854775807
         ·rw [if_pos c10] at H
          have c10b0 := eq_true c10
          have c10b1 : decide (((⟨#[35, 101, 108, 115, 101, 32, 47, 42, 32]⟩ : ByteArray) ++ a1).size + 4 ≤ 9223372036854775807) = true := decide_eq_true c10
          try have c10b2 : (9223372036854775807 < ((⟨#[35, 101, 108, 115, 101, 32, 47, 42, 32]⟩ : ByteArray) ++ a1).size + 4) = False := eq_false (Nat.not_lt.2 c10)
          try (have c10b4 := c10b2; simp only [ByteArray.size_append, show (⟨#[32]⟩ : ByteArray).size = 1 from rfl, show (⟨#[35, 101, 108, 115, 101, 32, 47, 42, 32]⟩ : ByteArray).size = 9 from rfl] at c10b4)
          by_cases c11 : a0.toList = (((⟨#[35, 101, 108, 115, 101, 32, 47, 42, 32]⟩ : ByteArray) ++ a1) ++ (⟨#[32, 42, 47, 10]⟩ : ByteArray)).toList
          ·rw [if_pos c11] at H
           have c11b0 : (a0.toList == (((⟨#[35, 101, 108, 115, 101, 32, 47, 42, 32]⟩ : ByteArray) ++ a1) ++ (⟨#[32, 42, 47, 10]⟩ : ByteArray)).toList) = true := beq_iff_eq.mpr c11
           have c11b1 : (a0.toList != (((⟨#[35, 101, 108, 115, 101, 32, 47, 42, 32]⟩ : ByteArray) ++ a1) ++ (⟨#[32, 42, 47, 10]⟩ : ByteArray)).toList) = false := bne_eq_false_iff_eq.mpr c11
           clear c11
           obtain rfl := Option.some.inj H
           go_enter Tryd.func24, Tryd.ntmps24
           go_wp2
           go_ret
           exact ⟨by first | rfl | (simp; done) | (simp [*]; done), by repeat (first | exact Drawn0.refl _ | apply Drawn0.step)⟩
          ·rw [if_neg c11] at H
           have c11b0 : (a0.toList == (((⟨#[35, 101, 108, 115, 101, 32, 47, 42, 32]⟩ : ByteArray) ++ a1) ++ (⟨#[32, 42, 47, 10]⟩ : ByteArray)).toList) = false := beq_eq_false_iff_ne.mpr c11
           have c11b1 : (a0.toList != (((⟨#[35, 101, 108, 115, 101, 32, 47, 42, 32]⟩ : ByteArray) ++ a1) ++ (⟨#[32, 42, 47, 10]⟩ : ByteArray)).toList) = true := bne_iff_ne.mpr c11
           by_cases c12 : 10 + a1.size ≤ 9223372036854775807
           ·rw [if_pos c12] at H
            have c12b0 := eq_true c12
            have c12b1 : decide (10 + a1.size ≤ 9223372036854775807) = true := decide_eq_true c12
            try have c12b2 : (9223372036854775807 < 10 + a1.size) = False := eq_false (Nat.not_lt.2 c12)
            by_cases c13 : ((⟨#[35, 101, 110, 100, 105, 102, 32, 47, 42, 32]⟩ : ByteArray) ++ a1).size + 4 ≤ 9223372036854775807
            ·rw [if_pos c13] at H
             have c13b0 := eq_true c13
             have c13b1 : decide (((⟨#[35, 101, 110, 100, 105, 102, 32, 47, 42, 32]⟩ : ByteArray) ++ a1).size + 4 ≤ 9223372036854775807) = true := decide_eq_true c13
             try have c13b2 : (9223372036854775807 < ((⟨#[35, 101, 110, 100, 105, 102, 32, 47, 42, 32]⟩ : ByteArray) ++ a1).size + 4) = False := eq_false (Nat.not_lt.2 c13)
             try (have c13b4 := c13b2; simp only [ByteArray.size_append, show (⟨#[32]⟩ : ByteArray).size = 1 from rfl, show (⟨#[35, 101, 110, 100, 105, 102, 32, 47, 42, 32]⟩ : ByteArray).size = 10 from rfl] at c13b4)
             by_cases c14 : a0.toList = (((⟨#[35, 101, 110, 100, 105, 102, 32, 47, 42, 32]⟩ : ByteArray) ++ a1) ++ (⟨#[32, 42, 47, 10]⟩ : ByteArray)).toList
             ·rw [if_pos c14] at H
              have c14b0 : (a0.toList == (((⟨#[35, 101, 110, 100, 105, 102, 32, 47, 42, 32]⟩ : ByteArray) ++ a1) ++ (⟨#[32, 42, 47, 10]⟩ : ByteArray)).toList) = true := beq_iff_eq.mpr c14
              have c14b1 : (a0.toList != (((⟨#[35, 101, 110, 100, 105, 102, 32, 47, 42, 32]⟩ : ByteArray) ++ a1) ++ (⟨#[32, 42, 47, 10]⟩ : ByteArray)).toList) = false := bne_eq_false_iff_eq.mpr c14
              clear c14
              obtain rfl := Option.some.inj H
              go_enter Tryd.func24, Tryd.ntmps24
              go_wp2
              go_ret
              exact ⟨by first | rfl | (simp; done) | (simp [*]; done), by repeat (first | exact Drawn0.refl _ | apply Drawn0.step)⟩
             ·rw [if_neg c14] at H
              have c14b0 : (a0.toList == (((⟨#[35, 101, 110, 100, 105, 102, 32, 47, 42, 32]⟩ : ByteArray) ++ a1) ++ (⟨#[32, 42, 47, 10]⟩ : ByteArray)).toList) = false := beq_eq_false_iff_ne.mpr c14
              have c14b1 : (a0.toList != (((⟨#[35, 101, 110, 100, 105, 102, 32, 47, 42, 32]⟩ : ByteArray) ++ a1) ++ (⟨#[32, 42, 47, 10]⟩ : ByteArray)).toList) = true := bne_iff_ne.mpr c14
              by_cases c15 : 12 + a1.size ≤ 9223372036854775807
              ·rw [if_pos c15] at H
               have c15b0 := eq_true c15
               have c15b1 : decide (12 + a1.size ≤ 9223372036854775807) = true := decide_eq_true c15
               try have c15b2 : (9223372036854775807 < 12 + a1.size) = False := eq_false (Nat.not_lt.2 c15)
               by_cases c16 : ((⟨#[35, 101, 110, 100, 105, 102, 32, 47, 42, 32, 33, 32]⟩ : ByteArray) ++ a1).size + 4 ≤ 9223372036854775807
               ·rw [if_pos c16] at H
                have c16b0 := eq_true c16
                have c16b1 : decide (((⟨#[35, 101, 110, 100, 105, 102, 32, 47, 42, 32, 33, 32]⟩ : ByteArray) ++ a1).size + 4 ≤ 9223372036854775807) = true := decide_eq_true c16
                try have c16b2 : (9223372036854775807 < ((⟨#[35, 101, 110, 100, 105, 102, 32, 47, 42, 32, 33, 32]⟩ : ByteArray) ++ a1).size + 4) = False := eq_false (Nat.not_lt.2 c16)
                try (have c16b4 := c16b2; simp only [ByteArray.size_append, show (⟨#[32]⟩ : ByteArray).size = 1 from rfl, show (⟨#[35, 101, 110, 100, 105, 102, 32, 47, 42, 32, 33, 32]⟩ : ByteArray).size = 12 from rfl] at c16b4)
                by_cases c17 : a0.toList = (((⟨#[35, 101, 110, 100, 105, 102, 32, 47, 42, 32, 33, 32]⟩ : ByteArray) ++ a1) ++ (⟨#[32, 42, 47, 10]⟩ : ByteArray)).toList
                ·rw [if_pos c17] at H
                 have c17b0 : (a0.toList == (((⟨#[35, 101, 110, 100, 105, 102, 32, 47, 42, 32, 33, 32]⟩ : ByteArray) ++ a1) ++ (⟨#[32, 42, 47, 10]⟩ : ByteArray)).toList) = true := beq_iff_eq.mpr c17
                 have c17b1 : (a0.toList != (((⟨#[35, 101, 110, 100, 105, 102, 32, 47, 42, 32, 33, 32]⟩ : ByteArray) ++ a1) ++ (⟨#[32, 42, 47, 10]⟩ : ByteArray)).toList) = false := bne_eq_false_iff_eq.mpr c17
                 clear c17
                 obtain rfl := Option.some.inj H
                 go_enter Tryd.func24, Tryd.ntmps24
                 go_wp2
                 go_ret
                 exact ⟨by first | rfl | (simp; done) | (simp [*]; done), by repeat (first | exact Drawn0.refl _ | apply Drawn0.step)⟩
                ·rw [if_neg c17] at H
                 have c17b0 : (a0.toList == (((⟨#[35, 101, 110, 100, 105, 102, 32, 47, 42, 32, 33, 32]⟩ : ByteArray) ++ a1) ++ (⟨#[32, 42, 47, 10]⟩ : ByteArray)).toList) = false := beq_eq_false_iff_ne.mpr c17
                 have c17b1 : (a0.toList != (((⟨#[35, 101, 110, 100, 105, 102, 32, 47, 42, 32, 33, 32]⟩ : ByteArray) ++ a1) ++ (⟨#[32, 42, 47, 10]⟩ : ByteArray)).toList) = true := bne_iff_ne.mpr c17
                 obtain rfl := Option.some.inj H
                 go_enter Tryd.func24, Tryd.ntmps24
                 go_wp2
                 go_ret
                 exact ⟨by first | rfl | (simp; done) | (simp [*]; done), by repeat (first | exact Drawn0.refl _ | apply Drawn0.step)⟩
               ·rw [if_neg c16] at H
                exact absurd H (by simp)
              ·rw [if_neg c15] at H
               exact absurd H (by simp)
            ·rw [if_neg c13] at H
             exact absurd H (by simp)
           ·rw [if_neg c12] at H
            exact absurd H (by simp)
         ·rw [if_neg c10] at H
          exact absurd H (by simp)
        ·rw [if_neg c9] at H
         exact absurd H (by simp)
      ·rw [if_neg c7] at H
       exact absurd H (by simp)
     ·rw [if_neg c6] at H
      exact absurd H (by simp)
   ·rw [if_neg c4] at H
    exact absurd H (by simp)
  ·rw [if_neg c3] at H
   exact absurd H (by simp)
end Go.Proofs.YtchhelmilbheoaaDoor.X
