import Derived.Test.YtnbeppnpfdempaaZAXx0
namespace Go.Proofs.Ytnbeppnpfdempaa.X
open Go.RowKit Go.Proofs.YtnbeppnpfdempaaW.PrintWords Go.Proofs.YtnbeppnpfdempaaW.PrintLast Go.Proofs.YtnbeppnpfdempaaW.PrintMore
attribute [local go_sem] max2_int min2_int max_two min_two max_three min_three max_four min_four   -- for this text's walks alone
open Go.Proofs.YtnbeppnpfdempaaW.HandWords
set_option linter.unusedVariables false
set_option linter.unusedSimpArgs false
mutual
def redlineref02_Check.l0 : Nat → List ByteArray → Int → Option (Int)
  | 0, _, _ => none
  | k + 1, x0, x3 => if x3 < (x0.length : Int) then (redlineref02_Check.l1 k x0 x3 0) else (some 0)
def redlineref02_Check.l1 : Nat → List ByteArray → Int → Int → Option (Int)
  | 0, _, _, _ => none
  | k + 1, x0, x3, x4 => if 0 ≤ x3 then (if x3 < (x0.length : Int) then (if x4 < (wrap64 (((rdOf ByteArray.empty x0 x3).size : Int) - 1)) then (if 0 ≤ x4 then (if x4 < ((rdOf ByteArray.empty x0 x3).size : Int) then (if (bt (rdOf ByteArray.empty x0 x3) x4) = 10 then (some 6) else (redlineref02_Check.l1 k x0 x3 (wrap64 (x4 + 1)))) else (none)) else (none)) else (if ((rdOf ByteArray.empty x0 x3).size : Int) = 0 then (some 6) else (if x3 < (wrap64 ((x0.length : Int) - 1)) then (if 0 ≤ (wrap64 (((rdOf ByteArray.empty x0 x3).size : Int) - 1)) then (if (wrap64 (((rdOf ByteArray.empty x0 x3).size : Int) - 1)) < ((rdOf ByteArray.empty x0 x3).size : Int) then (if (bt (rdOf ByteArray.empty x0 x3) (wrap64 (((rdOf ByteArray.empty x0 x3).size : Int) - 1))) = 10 then (redlineref02_Check.l0 k x0 (wrap64 (x3 + 1))) else (some 6)) else (none)) else (none)) else (redlineref02_Check.l0 k x0 (wrap64 (x3 + 1)))))) else (none)) else (none)
end
def redlineref02_Check.f (k : Nat) (l0 : List ByteArray) : Option (Int) := redlineref02_Check.l0 k l0 0
set_option maxHeartbeats 8000000 in
set_option maxRecDepth 100000 in
theorem redlineref02_Check.calls (k : Nat) (A0 : Option Addr) (c0 : Nat) (l0 : List ByteArray) (r : Int) (w : World) (hr0 : Kd.C Kd.string w A0 l0.length l0) (hc0 : l0.length ≤ c0) (h : redlineref02_Check.f k l0 = some r) :
    Calls Try.prog 31 #[.slice A0 l0.length c0] w fun e w' => e = .returned (.int .i64 r) ∧ Drawn0 w w' := by
  have HR0 := Aside0.mk hr0
  have HC0 := Aside0.mk hc0
  clear hr0 hc0
  have H : (redlineref02_Check.l0 k l0 0) = some r := h
  clear h
  have H' := Aside0.mk H
  clear H
  go_enter Try.func31, Try.ntmps31
  go_wp2
  repeat (go_quiet (fail); try go_wp2)
  go_loopg [3] k (fun kq v3 w' => ∃ (x3_1 : Int), v3 = .int .i64 x3_1 ∧ Aside0 (redlineref02_Check.l0 kq l0 x3_1 = some r) ∧ Aside0 (kq ≤ k) ∧ Drawn0 w w')
  case atStart => exact ⟨(0), (by first | rfl | (simp; done) | (simp [*]; done)), H', ⟨Nat.le_refl _⟩, by repeat (first | exact Drawn0.refl _ | apply Drawn0.step)⟩
  case round =>
   clear H'
   obtain ⟨x3_1, rfl, HA, HK1, ⟨m1, rfl⟩⟩ := hrel
   cases gk with
   | zero => exact absurd HA.out (by simp [redlineref02_Check.l0])
   | succ k1 =>
    have H := HA.out
    clear HA
    simp only [redlineref02_Check.l0] at H
    by_cases c2 : x3_1 < (l0.length : Int)
    ·rw [if_pos c2] at H
     have c2b0 : decide (x3_1 < (l0.length : Int)) = true := decide_eq_true c2
     clear c2
     have H' := Aside0.mk H
     clear H
     go_wp2
     repeat (go_quiet (fail); try go_wp2)
     go_loopg [4] k1 (fun kq v4 w' => ∃ (x4_2 : Int), v4 = .int .i64 x4_2 ∧ Aside0 (redlineref02_Check.l1 kq l0 x3_1 x4_2 = some r) ∧ Aside0 (kq ≤ k1) ∧ Drawn0 w w')
     case atStart => exact ⟨(0), (by first | rfl | (simp; done) | (simp [*]; done)), H', ⟨Nat.le_refl _⟩, by repeat (first | exact Drawn0.refl _ | apply Drawn0.step)⟩
     case round =>
      clear H'
      try clear c2
      try clear c2b0
      try clear p2
      obtain ⟨x4_2, rfl, HA, HK2, ⟨m2, rfl⟩⟩ := hrel
      cases gk with
      | zero => exact absurd HA.out (by simp [redlineref02_Check.l1])
      | succ k2 =>
       have H := HA.out
       clear HA
       simp only [redlineref02_Check.l1] at H
       by_cases c3 : 0 ≤ x3_1
       ·rw [if_pos c3] at H
        have c3b0 : decide (0 ≤ x3_1) = true := decide_eq_true c3
        clear c3
        by_cases c4 : x3_1 < (l0.length : Int)
        ·rw [if_pos c4] at H
         have c4b0 : decide (x3_1 < (l0.length : Int)) = true := decide_eq_true c4
         clear c4
         by_cases c5 : x4_2 < (wrap64 (((rdOf ByteArray.empty l0 x3_1).size : Int) - 1))
         ·rw [if_pos c5] at H
          have c5b0 : decide (x4_2 < (wrap64 (((rdOf ByteArray.empty l0 x3_1).size : Int) - 1))) = true := decide_eq_true c5
          clear c5
          by_cases c6 : 0 ≤ x4_2
          ·rw [if_pos c6] at H
           have c6b0 : decide (0 ≤ x4_2) = true := decide_eq_true c6
           clear c6
           by_cases c7 : x4_2 < ((rdOf ByteArray.empty l0 x3_1).size : Int)
           ·rw [if_pos c7] at H
            have c7b0 : decide (x4_2 < ((rdOf ByteArray.empty l0 x3_1).size : Int)) = true := decide_eq_true c7
            clear c7
            by_cases c9 : (bt (rdOf ByteArray.empty l0 x3_1) x4_2) = 10
            ·rw [if_pos c9] at H
             have c9b0 : ((bt (rdOf ByteArray.empty l0 x3_1) x4_2) == 10) = true := beq_iff_eq.mpr c9
             have c9b1 : ((bt (rdOf ByteArray.empty l0 x3_1) x4_2) != 10) = false := bne_eq_false_iff_eq.mpr c9
             clear c9
             obtain rfl := Option.some.inj H
             have p229 : 0 ≤ (x3_1 : Int) := of_decide_eq_true (by first | (with_reducible assumption) | assumption)
             have q229 : x3_1 < (l0.length : Int) := of_decide_eq_true (by first | (with_reducible assumption) | assumption)
             obtain ⟨ad229, e229, hx229_0⟩ := Kd.at_string HR0.out x3_1 p229 q229
             cases e229
             replace p229 := eq_true p229
             replace q229 := eq_true q229
             have p230 : 0 ≤ (x3_1 : Int) := of_decide_eq_true (by first | (with_reducible assumption) | assumption)
             have q230 : x3_1 < (l0.length : Int) := of_decide_eq_true (by first | (with_reducible assumption) | assumption)
             obtain ⟨ad230, e230, hx230_0⟩ := Kd.at_string HR0.out x3_1 p230 q230
             obtain rfl : ad229 = ad230 := (by injection e230)
             replace p230 := eq_true p230
             replace q230 := eq_true q230
             have p8 : 0 ≤ (x4_2 : Int) := of_decide_eq_true (by first | (with_reducible assumption) | assumption)
             have q8 : x4_2 < ((rdOf ByteArray.empty l0 x3_1).size : Int) := of_decide_eq_true (by first | (with_reducible assumption) | assumption)
             have hx8 := bt_at (rdOf ByteArray.empty l0 x3_1) x4_2
             replace p8 := eq_true p8
             replace q8 := eq_true q8
             go_wp2
             repeat (go_quiet (fail); try go_wp2)
             go_ret
             exact ⟨by first | rfl | (simp; done) | (simp [*]; done), by repeat (first | exact Drawn0.refl _ | apply Drawn0.step)⟩
            ·rw [if_neg c9] at H
             have c9b0 : ((bt (rdOf ByteArray.empty l0 x3_1) x4_2) == 10) = false := beq_eq_false_iff_ne.mpr c9
             have c9b1 : ((bt (rdOf ByteArray.empty l0 x3_1) x4_2) != 10) = true := bne_iff_ne.mpr c9
             have H' := Aside0.mk H
             clear H
             have p229 : 0 ≤ (x3_1 : Int) := of_decide_eq_true (by first | (with_reducible assumption) | assumption)
             have q229 : x3_1 < (l0.length : Int) := of_decide_eq_true (by first | (with_reducible assumption) | assumption)
             obtain ⟨ad229, e229, hx229_0⟩ := Kd.at_string HR0.out x3_1 p229 q229
             cases e229
             replace p229 := eq_true p229
             replace q229 := eq_true q229
             have p230 : 0 ≤ (x3_1 : Int) := of_decide_eq_true (by first | (with_reducible assumption) | assumption)
             have q230 : x3_1 < (l0.length : Int) := of_decide_eq_true (by first | (with_reducible assumption) | assumption)
             obtain ⟨ad230, e230, hx230_0⟩ := Kd.at_string HR0.out x3_1 p230 q230
             obtain rfl : ad229 = ad230 := (by injection e230)
             replace p230 := eq_true p230
             replace q230 := eq_true q230
             have p8 : 0 ≤ (x4_2 : Int) := of_decide_eq_true (by first | (with_reducible assumption) | assumption)
             have q8 : x4_2 < ((rdOf ByteArray.empty l0 x3_1).size : Int) := of_decide_eq_true (by first | (with_reducible assumption) | assumption)
             have hx8 := bt_at (rdOf ByteArray.empty l0 x3_1) x4_2
             replace p8 := eq_true p8
             replace q8 := eq_true q8
             go_wp2
             repeat (go_quiet (fail); try go_wp2)
             go_roundg k2
             case measure => have := HK1.out; have := HK2.out; omega
             case rel => exact ⟨(wrap64 (x4_2 + 1)), (by first | rfl | (simp; done) | (simp [*]; done)), H', ⟨by have := HK1.out; have := HK2.out; omega⟩, by repeat (first | exact Drawn0.refl _ | apply Drawn0.step)⟩
           ·rw [if_neg c7] at H
            exact absurd H (by simp)
          ·rw [if_neg c6] at H
           exact absurd H (by simp)
         ·rw [if_neg c5] at H
          have c5b0 : decide (x4_2 < (wrap64 (((rdOf ByteArray.empty l0 x3_1).size : Int) - 1))) = false := decide_eq_false c5
          clear c5
          by_cases c10 : ((rdOf ByteArray.empty l0 x3_1).size : Int) = 0
          ·rw [if_pos c10] at H
           have c10b0 : (((rdOf ByteArray.empty l0 x3_1).size : Int) == 0) = true := beq_iff_eq.mpr c10
           have c10b1 : (((rdOf ByteArray.empty l0 x3_1).size : Int) != 0) = false := bne_eq_false_iff_eq.mpr c10
           clear c10
           obtain rfl := Option.some.inj H
           have p229 : 0 ≤ (x3_1 : Int) := of_decide_eq_true (by first | (with_reducible assumption) | assumption)
           have q229 : x3_1 < (l0.length : Int) := of_decide_eq_true (by first | (with_reducible assumption) | assumption)
           obtain ⟨ad229, e229, hx229_0⟩ := Kd.at_string HR0.out x3_1 p229 q229
           cases e229
           replace p229 := eq_true p229
           replace q229 := eq_true q229
           have p231 : 0 ≤ (x3_1 : Int) := of_decide_eq_true (by first | (with_reducible assumption) | assumption)
           have q231 : x3_1 < (l0.length : Int) := of_decide_eq_true (by first | (with_reducible assumption) | assumption)
           obtain ⟨ad231, e231, hx231_0⟩ := Kd.at_string HR0.out x3_1 p231 q231
           obtain rfl : ad229 = ad231 := (by injection e231)
           replace p231 := eq_true p231
           replace q231 := eq_true q231
           go_wp2
           repeat (go_quiet (fail); try go_wp2)
           go_ret
           exact ⟨by first | rfl | (simp; done) | (simp [*]; done), by repeat (first | exact Drawn0.refl _ | apply Drawn0.step)⟩
          ·rw [if_neg c10] at H
           have c10b0 : (((rdOf ByteArray.empty l0 x3_1).size : Int) == 0) = false := beq_eq_false_iff_ne.mpr c10
           have c10b1 : (((rdOf ByteArray.empty l0 x3_1).size : Int) != 0) = true := bne_iff_ne.mpr c10
           by_cases c11 : x3_1 < (wrap64 ((l0.length : Int) - 1))
           ·rw [if_pos c11] at H
            have c11b0 : decide (x3_1 < (wrap64 ((l0.length : Int) - 1))) = true := decide_eq_true c11
            clear c11
            obtain ⟨ji12, hji12⟩ : ∃ j_ : Int, (wrap64 (((rdOf ByteArray.empty l0 x3_1).size : Int) - 1)) = j_ := ⟨_, rfl⟩
            replace H : (if 0 ≤ (ji12) then (if (ji12) < ((rdOf ByteArray.empty l0 x3_1).size : Int) then (if (bt (rdOf ByteArray.empty l0 x3_1) (ji12)) = 10 then (redlineref02_Check.l0 k2 l0 (wrap64 (x3_1 + 1))) else (some 6)) else (none)) else (none)) = some r := by first | (rw [hji12] at H; exact H) | (simp only [hji12] at H ⊢; exact H)
            (try rw [hji12] at c5b0)
            have hji12w : (IntKind.i64.wrap (((rdOf ByteArray.empty l0 x3_1).size : Int) - 1)) = ji12 := (i64_w _).trans hji12
            by_cases c13 : 0 ≤ (ji12)
            ·rw [if_pos c13] at H
             have c13b0 : decide (0 ≤ (ji12)) = true := decide_eq_true c13
             clear c13
             by_cases c14 : (ji12) < ((rdOf ByteArray.empty l0 x3_1).size : Int)
             ·rw [if_pos c14] at H
              have c14b0 : decide ((ji12) < ((rdOf ByteArray.empty l0 x3_1).size : Int)) = true := decide_eq_true c14
              clear c14
              by_cases c16 : (bt (rdOf ByteArray.empty l0 x3_1) (ji12)) = 10
              ·rw [if_pos c16] at H
               have c16b0 : ((bt (rdOf ByteArray.empty l0 x3_1) (ji12)) == 10) = true := beq_iff_eq.mpr c16
               have c16b1 : ((bt (rdOf ByteArray.empty l0 x3_1) (ji12)) != 10) = false := bne_eq_false_iff_eq.mpr c16
               clear c16
               have H' := Aside0.mk H
               clear H
               have p229 : 0 ≤ (x3_1 : Int) := of_decide_eq_true (by first | (with_reducible assumption) | assumption)
               have q229 : x3_1 < (l0.length : Int) := of_decide_eq_true (by first | (with_reducible assumption) | assumption)
               obtain ⟨ad229, e229, hx229_0⟩ := Kd.at_string HR0.out x3_1 p229 q229
               cases e229
               replace p229 := eq_true p229
               replace q229 := eq_true q229
               have p231 : 0 ≤ (x3_1 : Int) := of_decide_eq_true (by first | (with_reducible assumption) | assumption)
               have q231 : x3_1 < (l0.length : Int) := of_decide_eq_true (by first | (with_reducible assumption) | assumption)
               obtain ⟨ad231, e231, hx231_0⟩ := Kd.at_string HR0.out x3_1 p231 q231
               obtain rfl : ad229 = ad231 := (by injection e231)
               replace p231 := eq_true p231
               replace q231 := eq_true q231
               have p232 : 0 ≤ (x3_1 : Int) := of_decide_eq_true (by first | (with_reducible assumption) | assumption)
               have q232 : x3_1 < (l0.length : Int) := of_decide_eq_true (by first | (with_reducible assumption) | assumption)
               obtain ⟨ad232, e232, hx232_0⟩ := Kd.at_string HR0.out x3_1 p232 q232
               obtain rfl : ad229 = ad232 := (by injection e232)
               replace p232 := eq_true p232
               replace q232 := eq_true q232
               have p233 : 0 ≤ (x3_1 : Int) := of_decide_eq_true (by first | (with_reducible assumption) | assumption)
               have q233 : x3_1 < (l0.length : Int) := of_decide_eq_true (by first | (with_reducible assumption) | assumption)
               obtain ⟨ad233, e233, hx233_0⟩ := Kd.at_string HR0.out x3_1 p233 q233
               obtain rfl : ad229 = ad233 := (by injection e233)
               replace p233 := eq_true p233
               replace q233 := eq_true q233
               have p15 : 0 ≤ ((ji12) : Int) := of_decide_eq_true (by first | (with_reducible assumption) | assumption)
               have q15 : (ji12) < ((rdOf ByteArray.empty l0 x3_1).size : Int) := of_decide_eq_true (by first | (with_reducible assumption) | assumption)
               have hx15 := bt_at (rdOf ByteArray.empty l0 x3_1) (ji12)
               replace p15 := eq_true p15
               replace q15 := eq_true q15
               go_wp2
               repeat (go_quiet (fail); try go_wp2)
               go_roundg k2
               case measure => have := HK1.out; have := HK2.out; omega
               case rel => exact ⟨(wrap64 (x3_1 + 1)), (by first | rfl | (simp; done) | (simp [*]; done)), H', ⟨by have := HK1.out; have := HK2.out; omega⟩, by repeat (first | exact Drawn0.refl _ | apply Drawn0.step)⟩
              ·rw [if_neg c16] at H
               have c16b0 : ((bt (rdOf ByteArray.empty l0 x3_1) (ji12)) == 10) = false := beq_eq_false_iff_ne.mpr c16
               have c16b1 : ((bt (rdOf ByteArray.empty l0 x3_1) (ji12)) != 10) = true := bne_iff_ne.mpr c16
               obtain rfl := Option.some.inj H
               have p229 : 0 ≤ (x3_1 : Int) := of_decide_eq_true (by first | (with_reducible assumption) | assumption)
               have q229 : x3_1 < (l0.length : Int) := of_decide_eq_true (by first | (with_reducible assumption) | assumption)
               obtain ⟨ad229, e229, hx229_0⟩ := Kd.at_string HR0.out x3_1 p229 q229
               cases e229
               replace p229 := eq_true p229
               replace q229 := eq_true q229
               have p231 : 0 ≤ (x3_1 : Int) := of_decide_eq_true (by first | (with_reducible assumption) | assumption)
               have q231 : x3_1 < (l0.length : Int) := of_decide_eq_true (by first | (with_reducible assumption) | assumption)
               obtain ⟨ad231, e231, hx231_0⟩ := Kd.at_string HR0.out x3_1 p231 q231
               obtain rfl : ad229 = ad231 := (by injection e231)
               replace p231 := eq_true p231
               replace q231 := eq_true q231
               have p232 : 0 ≤ (x3_1 : Int) := of_decide_eq_true (by first | (with_reducible assumption) | assumption)
               have q232 : x3_1 < (l0.length : Int) := of_decide_eq_true (by first | (with_reducible assumption) | assumption)
               obtain ⟨ad232, e232, hx232_0⟩ := Kd.at_string HR0.out x3_1 p232 q232
               obtain rfl : ad229 = ad232 := (by injection e232)
               replace p232 := eq_true p232
               replace q232 := eq_true q232
               have p233 : 0 ≤ (x3_1 : Int) := of_decide_eq_true (by first | (with_reducible assumption) | assumption)
               have q233 : x3_1 < (l0.length : Int) := of_decide_eq_true (by first | (with_reducible assumption) | assumption)
               obtain ⟨ad233, e233, hx233_0⟩ := Kd.at_string HR0.out x3_1 p233 q233
               obtain rfl : ad229 = ad233 := (by injection e233)
               replace p233 := eq_true p233
               replace q233 := eq_true q233
               have p15 : 0 ≤ ((ji12) : Int) := of_decide_eq_true (by first | (with_reducible assumption) | assumption)
               have q15 : (ji12) < ((rdOf ByteArray.empty l0 x3_1).size : Int) := of_decide_eq_true (by first | (with_reducible assumption) | assumption)
               have hx15 := bt_at (rdOf ByteArray.empty l0 x3_1) (ji12)
               replace p15 := eq_true p15
               replace q15 := eq_true q15
               go_wp2
               repeat (go_quiet (fail); try go_wp2)
               go_ret
               exact ⟨by first | rfl | (simp; done) | (simp only [← hji12] <;> (first | rfl | simp)) | (simp [*]; done), by repeat (first | exact Drawn0.refl _ | apply Drawn0.step)⟩
             ·rw [if_neg c14] at H
              exact absurd H (by simp)
            ·rw [if_neg c13] at H
             exact absurd H (by simp)
           ·rw [if_neg c11] at H
            have c11b0 : decide (x3_1 < (wrap64 ((l0.length : Int) - 1))) = false := decide_eq_false c11
            clear c11
            have H' := Aside0.mk H
            clear H
            have p229 : 0 ≤ (x3_1 : Int) := of_decide_eq_true (by first | (with_reducible assumption) | assumption)
            have q229 : x3_1 < (l0.length : Int) := of_decide_eq_true (by first | (with_reducible assumption) | assumption)
            obtain ⟨ad229, e229, hx229_0⟩ := Kd.at_string HR0.out x3_1 p229 q229
            cases e229
            replace p229 := eq_true p229
            replace q229 := eq_true q229
            have p231 : 0 ≤ (x3_1 : Int) := of_decide_eq_true (by first | (with_reducible assumption) | assumption)
            have q231 : x3_1 < (l0.length : Int) := of_decide_eq_true (by first | (with_reducible assumption) | assumption)
            obtain ⟨ad231, e231, hx231_0⟩ := Kd.at_string HR0.out x3_1 p231 q231
            obtain rfl : ad229 = ad231 := (by injection e231)
            replace p231 := eq_true p231
            replace q231 := eq_true q231
            go_wp2
            repeat (go_quiet (fail); try go_wp2)
            go_roundg k2
            case measure => have := HK1.out; have := HK2.out; omega
            case rel => exact ⟨(wrap64 (x3_1 + 1)), (by first | rfl | (simp; done) | (simp [*]; done)), H', ⟨by have := HK1.out; have := HK2.out; omega⟩, by repeat (first | exact Drawn0.refl _ | apply Drawn0.step)⟩
        ·rw [if_neg c4] at H
         exact absurd H (by simp)
       ·rw [if_neg c3] at H
        exact absurd H (by simp)
    ·rw [if_neg c2] at H
     have c2b0 : decide (x3_1 < (l0.length : Int)) = false := decide_eq_false c2
     clear c2
     obtain rfl := Option.some.inj H
     go_wp2
     repeat (go_quiet (fail); try go_wp2)
     go_ret
     exact ⟨by first | rfl | (simp; done) | (simp [*]; done), by repeat (first | exact Drawn0.refl _ | apply Drawn0.step)⟩
end Go.Proofs.Ytnbeppnpfdempaa.X
