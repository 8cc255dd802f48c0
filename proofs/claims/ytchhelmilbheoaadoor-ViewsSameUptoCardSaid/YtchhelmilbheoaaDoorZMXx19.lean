import Derived.Test.YtchhelmilbheoaaDoorZMXx0
namespace Go.Proofs.YtchhelmilbheoaaDoor.X
open Go.RowKit Go.Proofs.YtchhelmilbheoaaDoorW.PrintWords Go.Proofs.YtchhelmilbheoaaDoorW.PrintLast Go.Proofs.YtchhelmilbheoaaDoorW.PrintMore
attribute [local go_sem] max2_int min2_int max_two min_two max_three min_three max_four min_four   -- for this text's walks alone
open Go.Proofs.YtchhelmilbheoaaDoorW.HandWords
set_option linter.unusedVariables false
set_option linter.unusedSimpArgs false
def views_of.f (a0 : ByteArray) : Option (ByteArray × ByteArray × ByteArray × ByteArray × ByteArray) := if 7 + a0.size ≤ 9223372036854775807 then (if ((⟨#[35, 105, 102, 100, 101, 102, 32]⟩ : ByteArray) ++ a0).size + 1 ≤ 9223372036854775807 then (if 8 + a0.size ≤ 9223372036854775807 then (if ((⟨#[35, 105, 102, 110, 100, 101, 102, 32]⟩ : ByteArray) ++ a0).size + 1 ≤ 9223372036854775807 then (if 9 + a0.size ≤ 9223372036854775807 then (if ((⟨#[35, 101, 108, 115, 101, 32, 47, 42, 32]⟩ : ByteArray) ++ a0).size + 4 ≤ 9223372036854775807 then (if 10 + a0.size ≤ 9223372036854775807 then (if ((⟨#[35, 101, 110, 100, 105, 102, 32, 47, 42, 32]⟩ : ByteArray) ++ a0).size + 4 ≤ 9223372036854775807 then (if 12 + a0.size ≤ 9223372036854775807 then (if ((⟨#[35, 101, 110, 100, 105, 102, 32, 47, 42, 32, 33, 32]⟩ : ByteArray) ++ a0).size + 4 ≤ 9223372036854775807 then (some (((⟨#[35, 105, 102, 100, 101, 102, 32]⟩ : ByteArray) ++ a0) ++ (⟨#[10]⟩ : ByteArray), ((⟨#[35, 105, 102, 110, 100, 101, 102, 32]⟩ : ByteArray) ++ a0) ++ (⟨#[10]⟩ : ByteArray), ((⟨#[35, 101, 108, 115, 101, 32, 47, 42, 32]⟩ : ByteArray) ++ a0) ++ (⟨#[32, 42, 47, 10]⟩ : ByteArray), ((⟨#[35, 101, 110, 100, 105, 102, 32, 47, 42, 32]⟩ : ByteArray) ++ a0) ++ (⟨#[32, 42, 47, 10]⟩ : ByteArray), ((⟨#[35, 101, 110, 100, 105, 102, 32, 47, 42, 32, 33, 32]⟩ : ByteArray) ++ a0) ++ (⟨#[32, 42, 47, 10]⟩ : ByteArray))) else (none)) else (none)) else (none)) else (none)) else (none)) else (none)) else (none)) else (none)) else (none)) else (none)
set_option maxHeartbeats 8000000 in
set_option maxRecDepth 100000 in
theorem views_of.calls (a0 : ByteArray) (r1 : ByteArray) (r2 : ByteArray) (r3 : ByteArray) (r4 : ByteArray) (r5 : ByteArray) (w : World) (h : views_of.f a0 = some (r1, r2, r3, r4, r5)) :
    Calls Tryd.prog 19 #[.string a0] w fun e w' => e = .returned (.agg #[.string r1, .string r2, .string r3, .string r4, .string r5]) ∧ Below w.heap.size w w' := by
  have hu51 := Tryd.underlying51
  have HB := Aside0.mk (Below.refl w.heap.size w)
  have H : (if 7 + a0.size ≤ 9223372036854775807 then (if ((⟨#[35, 105, 102, 100, 101, 102, 32]⟩ : ByteArray) ++ a0).size + 1 ≤ 9223372036854775807 then (if 8 + a0.size ≤ 9223372036854775807 then (if ((⟨#[35, 105, 102, 110, 100, 101, 102, 32]⟩ : ByteArray) ++ a0).size + 1 ≤ 9223372036854775807 then (if 9 + a0.size ≤ 9223372036854775807 then (if ((⟨#[35, 101, 108, 115, 101, 32, 47, 42, 32]⟩ : ByteArray) ++ a0).size + 4 ≤ 9223372036854775807 then (if 10 + a0.size ≤ 9223372036854775807 then (if ((⟨#[35, 101, 110, 100, 105, 102, 32, 47, 42, 32]⟩ : ByteArray) ++ a0).size + 4 ≤ 9223372036854775807 then (if 12 + a0.size ≤ 9223372036854775807 then (if ((⟨#[35, 101, 110, 100, 105, 102, 32, 47, 42, 32, 33, 32]⟩ : ByteArray) ++ a0).size + 4 ≤ 9223372036854775807 then (some (((⟨#[35, 105, 102, 100, 101, 102, 32]⟩ : ByteArray) ++ a0) ++ (⟨#[10]⟩ : ByteArray), ((⟨#[35, 105, 102, 110, 100, 101, 102, 32]⟩ : ByteArray) ++ a0) ++ (⟨#[10]⟩ : ByteArray), ((⟨#[35, 101, 108, 115, 101, 32, 47, 42, 32]⟩ : ByteArray) ++ a0) ++ (⟨#[32, 42, 47, 10]⟩ : ByteArray), ((⟨#[35, 101, 110, 100, 105, 102, 32, 47, 42, 32]⟩ : ByteArray) ++ a0) ++ (⟨#[32, 42, 47, 10]⟩ : ByteArray), ((⟨#[35, 101, 110, 100, 105, 102, 32, 47, 42, 32, 33, 32]⟩ : ByteArray) ++ a0) ++ (⟨#[32, 42, 47, 10]⟩ : ByteArray))) else (none)) else (none)) else (none)) else (none)) else (none)) else (none)) else (none)) else (none)) else (none)) else (none)) = some (r1, r2, r3, r4, r5) := h
  clear h
  by_cases c2 : 7 + a0.size ≤ 9223372036854775807
  ·rw [if_pos c2] at H
   have c2b0 := eq_true c2
   have c2b1 : decide (7 + a0.size ≤ 9223372036854775807) = true := decide_eq_true c2
   try have c2b2 : (9223372036854775807 < 7 + a0.size) = False := eq_false (Nat.not_lt.2 c2)
   by_cases c3 : ((⟨#[35, 105, 102, 100, 101, 102, 32]⟩ : ByteArray) ++ a0).size + 1 ≤ 9223372036854775807
   ·rw [if_pos c3] at H
    have c3b0 := eq_true c3
    have c3b1 : decide (((⟨#[35, 105, 102, 100, 101, 102, 32]⟩ : ByteArray) ++ a0).size + 1 ≤ 9223372036854775807) = true := decide_eq_true c3
    try have c3b2 : (9223372036854775807 < ((⟨#[35, 105, 102, 100, 101, 102, 32]⟩ : ByteArray) ++ a0).size + 1) = False := eq_false (Nat.not_lt.2 c3)
    have c3z_ : 7 + a0.size + 1 ≤ 9223372036854775807 := by have h_ := c3; simp only [ByteArray.size_append] at h_; exact h_
    have c3z0_ := eq_true c3z_
    have c3z1_ : decide (7 + a0.size + 1 ≤ 9223372036854775807) = true := decide_eq_true c3z_
    have c3z2_ : (9223372036854775807 < 7 + a0.size + 1) = False := eq_false (Nat.not_lt.2 c3z_)
    clear c3z_
    by_cases c4 : 8 + a0.size ≤ 9223372036854775807
    ·rw [if_pos c4] at H
     have c4b0 := eq_true c4
     have c4b1 : decide (8 + a0.size ≤ 9223372036854775807) = true := decide_eq_true c4
     try have c4b2 : (9223372036854775807 < 8 + a0.size) = False := eq_false (Nat.not_lt.2 c4)
     by_cases c5 : ((⟨#[35, 105, 102, 110, 100, 101, 102, 32]⟩ : ByteArray) ++ a0).size + 1 ≤ 9223372036854775807
     ·rw [if_pos c5] at H
      have c5b0 := eq_true c5
      have c5b1 : decide (((⟨#[35, 105, 102, 110, 100, 101, 102, 32]⟩ : ByteArray) ++ a0).size + 1 ≤ 9223372036854775807) = true := decide_eq_true c5
      try have c5b2 : (9223372036854775807 < ((⟨#[35, 105, 102, 110, 100, 101, 102, 32]⟩ : ByteArray) ++ a0).size + 1) = False := eq_false (Nat.not_lt.2 c5)
      have c5z_ : 8 + a0.size + 1 ≤ 9223372036854775807 := by have h_ := c5; simp only [ByteArray.size_append] at h_; exact h_
      have c5z0_ := eq_true c5z_
      have c5z1_ : decide (8 + a0.size + 1 ≤ 9223372036854775807) = true := decide_eq_true c5z_
      have c5z2_ : (9223372036854775807 < 8 + a0.size + 1) = False := eq_false (Nat.not_lt.2 c5z_)
      clear c5z_
      by_cases c6 : 9 + a0.size ≤ 9223372036854775807
      ·rw [if_pos c6] at H
       have c6b0 := eq_true c6
       have c6b1 : decide (9 + a0.size ≤ 9223372036854775807) = true := decide_eq_true c6
       try have c6b2 : (9223372036854775807 < 9 + a0.size) = False := eq_false (Nat.not_lt.2 c6)
       by_cases c7 : ((⟨#[35, 101, 108, 115, 101, 32, 47, 42, 32]⟩ : ByteArray) ++ a0).size + 4 ≤ 9223372036854775807
       ·rw [if_pos c7] at H
        have c7b0 := eq_true c7
        have c7b1 : decide (((⟨#[35, 101, 108, 115, 101, 32, 47, 42, 32]⟩ : ByteArray) ++ a0).size + 4 ≤ 9223372036854775807) = true := decide_eq_true c7
        try have c7b2 : (9223372036854775807 < ((⟨#[35, 101, 108, 115, 101, 32, 47, 42, 32]⟩ : ByteArray) ++ a0).size + 4) = False := eq_false (Nat.not_lt.2 c7)
        have c7z_ : 9 + a0.size + 4 ≤ 9223372036854775807 := by have h_ := c7; simp only [ByteArray.size_append] at h_; exact h_
        have c7z0_ := eq_true c7z_
        have c7z1_ : decide (9 + a0.size + 4 ≤ 9223372036854775807) = true := decide_eq_true c7z_
        have c7z2_ : (9223372036854775807 < 9 + a0.size + 4) = False := eq_false (Nat.not_lt.2 c7z_)
        clear c7z_
        by_cases c8 : 10 + a0.size ≤ 9223372036854775807
        ·rw [if_pos c8] at H
         have c8b0 := eq_true c8
         have c8b1 : decide (10 + a0.size ≤ 9223372036854775807) = true := decide_eq_true c8
         try have c8b2 : (9223372036854775807 < 10 + a0.size) = False := eq_false (Nat.not_lt.2 c8)
         by_cases c9 : ((⟨#[35, 101, 110, 100, 105, 102, 32, 47, 42, 32]⟩ : ByteArray) ++ a0).size + 4 ≤ 9223372036854775807
         ·rw [if_pos c9] at H
          have c9b0 := eq_true c9
          have c9b1 : decide (((⟨#[35, 101, 110, 100, 105, 102, 32, 47, 42, 32]⟩ : ByteArray) ++ a0).size + 4 ≤ 9223372036854775807) = true := decide_eq_true c9
          try have c9b2 : (9223372036854775807 < ((⟨#[35, 101, 110, 100, 105, 102, 32, 47, 42, 32]⟩ : ByteArray) ++ a0).size + 4) = False := eq_false (Nat.not_lt.2 c9)
          have c9z_ : 10 + a0.size + 4 ≤ 9223372036854775807 := by have h_ := c9; simp only [ByteArray.size_append] at h_; exact h_
          have c9z0_ := eq_true c9z_
          have c9z1_ : decide (10 + a0.size + 4 ≤ 9223372036854775807) = true := decide_eq_true c9z_
          have c9z2_ : (9223372036854775807 < 10 + a0.size + 4) = False := eq_false (Nat.not_lt.2 c9z_)
          clear c9z_
          by_cases c10 : 12 + a0.size ≤ 9223372036854775807
          ·rw [if_pos c10] at H
           have c10b0 := eq_true c10
           have c10b1 : decide (12 + a0.size ≤ 9223372036854775807) = true := decide_eq_true c10
           try have c10b2 : (9223372036854775807 < 12 + a0.size) = False := eq_false (Nat.not_lt.2 c10)
           by_cases c11 : ((⟨#[35, 101, 110, 100, 105, 102, 32, 47, 42, 32, 33, 32]⟩ : ByteArray) ++ a0).size + 4 ≤ 9223372036854775807
           ·rw [if_pos c11] at H
            have c11b0 := eq_true c11
            have c11b1 : decide (((⟨#[35, 101, 110, 100, 105, 102, 32, 47, 42, 32, 33, 32]⟩ : ByteArray) ++ a0).size + 4 ≤ 9223372036854775807) = true := decide_eq_true c11
            try have c11b2 : (9223372036854775807 < ((⟨#[35, 101, 110, 100, 105, 102, 32, 47, 42, 32, 33, 32]⟩ : ByteArray) ++ a0).size + 4) = False := eq_false (Nat.not_lt.2 c11)
            have c11z_ : 12 + a0.size + 4 ≤ 9223372036854775807 := by have h_ := c11; simp only [ByteArray.size_append] at h_; exact h_
            have c11z0_ := eq_true c11z_
            have c11z1_ : decide (12 + a0.size + 4 ≤ 9223372036854775807) = true := decide_eq_true c11z_
            have c11z2_ : (9223372036854775807 < 12 + a0.size + 4) = False := eq_false (Nat.not_lt.2 c11z_)
            clear c11z_
            simp only [Option.some.injEq, Prod.mk.injEq] at H
            obtain ⟨rfl, rfl, rfl, rfl, rfl⟩ := H
            go_enter Tryd.func19, Tryd.ntmps19
            go_wp2_with (first | ((with_reducible refine gate_dst (N := 2) rfl ?_); refine box_event ?hg (N := 2) ?hd (cs := #[.string (⟨#[]⟩ : ByteArray), .string (⟨#[]⟩ : ByteArray), .string (⟨#[]⟩ : ByteArray), .string (⟨#[]⟩ : ByteArray), .string (⟨#[]⟩ : ByteArray)]) (t := 51) ?hr ?_; (case hd => rfl); (case hg => rfl); (case hr => first | (go_simp; done) | (go_simp; rfl)); intro gb103 hg w12 hbox hb; have n0_ := Aside0.mk (below_step (by repeat (first | (with_reducible first | exact HB.out | apply below_alloc | apply pw_below_drewN | apply below_drew1) | exact HB.out)) hb); have n1_ := Aside0.mk (hbox); have n2_ := Aside0.mk ((by rw [hg]; exact (below_size (by repeat (first | (with_reducible first | exact HB.out | apply below_alloc | apply pw_below_drewN | apply below_drew1) | exact HB.out))) : w.heap.size ≤ gb103)); have n3_ := Aside0.mk ((by rw [hg]; exact (below_size (by repeat (first | (with_reducible first | exact HB.out | apply below_alloc | apply pw_below_drewN | apply below_drew1) | exact HB.out))) : w.heap.size ≤ gb103)); clear HB; have HB := n0_; have BK103 := n1_; have GW103 := n2_; have GE103 := n3_; clear n0_ n1_ n2_ n3_; clear hb hbox hg; have hcz13_0 : w12.cell? ⟨gb103, 0, none⟩ = some (.string (⟨#[]⟩ : ByteArray)) := (blk_cell BK103.out 0).trans rfl; have hcz13_1 : w12.cell? ⟨gb103, 1, none⟩ = some (.string (⟨#[]⟩ : ByteArray)) := (blk_cell BK103.out 1).trans rfl; have hcz13_2 : w12.cell? ⟨gb103, 2, none⟩ = some (.string (⟨#[]⟩ : ByteArray)) := (blk_cell BK103.out 2).trans rfl; have hcz13_3 : w12.cell? ⟨gb103, 3, none⟩ = some (.string (⟨#[]⟩ : ByteArray)) := (blk_cell BK103.out 3).trans rfl; have hcz13_4 : w12.cell? ⟨gb103, 4, none⟩ = some (.string (⟨#[]⟩ : ByteArray)) := (blk_cell BK103.out 4).trans rfl; have hfz13_0 := blk_frozen BK103.out 0; have hfz13_1 := blk_frozen BK103.out 1; have hfz13_2 := blk_frozen BK103.out 2; have hfz13_3 := blk_frozen BK103.out 3; have hfz13_4 := blk_frozen BK103.out 4))
            refine bodyPost_ret (results_cell_row rfl _ _ gb103 51 #[.string (((⟨#[35, 105, 102, 100, 101, 102, 32]⟩ : ByteArray) ++ a0) ++ (⟨#[10]⟩ : ByteArray)), .string (((⟨#[35, 105, 102, 110, 100, 101, 102, 32]⟩ : ByteArray) ++ a0) ++ (⟨#[10]⟩ : ByteArray)), .string (((⟨#[35, 101, 108, 115, 101, 32, 47, 42, 32]⟩ : ByteArray) ++ a0) ++ (⟨#[32, 42, 47, 10]⟩ : ByteArray)), .string (((⟨#[35, 101, 110, 100, 105, 102, 32, 47, 42, 32]⟩ : ByteArray) ++ a0) ++ (⟨#[32, 42, 47, 10]⟩ : ByteArray)), .string (((⟨#[35, 101, 110, 100, 105, 102, 32, 47, 42, 32, 33, 32]⟩ : ByteArray) ++ a0) ++ (⟨#[32, 42, 47, 10]⟩ : ByteArray))] (0, 0) _ rfl (by (with_reducible repeat (first | refine blk_drewN ?_ _ | refine blk_drew ?_ | refine blk_alloc ?_ _)); refine blk_put (cs := #[.string (((⟨#[35, 105, 102, 100, 101, 102, 32]⟩ : ByteArray) ++ a0) ++ (⟨#[10]⟩ : ByteArray)), .string (((⟨#[35, 105, 102, 110, 100, 101, 102, 32]⟩ : ByteArray) ++ a0) ++ (⟨#[10]⟩ : ByteArray)), .string (((⟨#[35, 101, 108, 115, 101, 32, 47, 42, 32]⟩ : ByteArray) ++ a0) ++ (⟨#[32, 42, 47, 10]⟩ : ByteArray)), .string (((⟨#[35, 101, 110, 100, 105, 102, 32, 47, 42, 32]⟩ : ByteArray) ++ a0) ++ (⟨#[32, 42, 47, 10]⟩ : ByteArray)), .string (⟨#[]⟩ : ByteArray)]) ?_ 4 _ rfl; (with_reducible repeat (first | refine blk_drewN ?_ _ | refine blk_drew ?_ | refine blk_alloc ?_ _)); refine blk_put (cs := #[.string (((⟨#[35, 105, 102, 100, 101, 102, 32]⟩ : ByteArray) ++ a0) ++ (⟨#[10]⟩ : ByteArray)), .string (((⟨#[35, 105, 102, 110, 100, 101, 102, 32]⟩ : ByteArray) ++ a0) ++ (⟨#[10]⟩ : ByteArray)), .string (((⟨#[35, 101, 108, 115, 101, 32, 47, 42, 32]⟩ : ByteArray) ++ a0) ++ (⟨#[32, 42, 47, 10]⟩ : ByteArray)), .string (⟨#[]⟩ : ByteArray), .string (⟨#[]⟩ : ByteArray)]) ?_ 3 _ rfl; (with_reducible repeat (first | refine blk_drewN ?_ _ | refine blk_drew ?_ | refine blk_alloc ?_ _)); refine blk_put (cs := #[.string (((⟨#[35, 105, 102, 100, 101, 102, 32]⟩ : ByteArray) ++ a0) ++ (⟨#[10]⟩ : ByteArray)), .string (((⟨#[35, 105, 102, 110, 100, 101, 102, 32]⟩ : ByteArray) ++ a0) ++ (⟨#[10]⟩ : ByteArray)), .string (⟨#[]⟩ : ByteArray), .string (⟨#[]⟩ : ByteArray), .string (⟨#[]⟩ : ByteArray)]) ?_ 2 _ rfl; (with_reducible repeat (first | refine blk_drewN ?_ _ | refine blk_drew ?_ | refine blk_alloc ?_ _)); refine blk_put (cs := #[.string (((⟨#[35, 105, 102, 100, 101, 102, 32]⟩ : ByteArray) ++ a0) ++ (⟨#[10]⟩ : ByteArray)), .string (⟨#[]⟩ : ByteArray), .string (⟨#[]⟩ : ByteArray), .string (⟨#[]⟩ : ByteArray), .string (⟨#[]⟩ : ByteArray)]) ?_ 1 _ rfl; (with_reducible repeat (first | refine blk_drewN ?_ _ | refine blk_drew ?_ | refine blk_alloc ?_ _)); refine blk_put (cs := #[.string (⟨#[]⟩ : ByteArray), .string (⟨#[]⟩ : ByteArray), .string (⟨#[]⟩ : ByteArray), .string (⟨#[]⟩ : ByteArray), .string (⟨#[]⟩ : ByteArray)]) ?_ 0 _ rfl; (with_reducible repeat (first | refine blk_drewN ?_ _ | refine blk_drew ?_ | refine blk_alloc ?_ _)); exact BK103.out) Tryd.underlying51 rfl (by kernel_rfl)) rfl ?_
            exact ⟨by first | rfl | (simp [errW_none, errW_some] <;> rfl) | (simp [*, errW_none, errW_some] <;> rfl), by repeat (first | (with_reducible first | exact HB.out | apply below_alloc | apply pw_below_drewN | apply below_drew1 | refine below_set ?_ GE103.out) | exact HB.out)⟩
           ·rw [if_neg c11] at H
            exact absurd H (by simp)
          ·rw [if_neg c10] at H
           exact absurd H (by simp)
         ·rw [if_neg c9] at H
          exact absurd H (by simp)
        ·rw [if_neg c8] at H
         exact absurd H (by simp)
       ·rw [if_neg c7] at H
        exact absurd H (by simp)
      ·rw [if_neg c6] at H
       exact absurd H (by simp)
     ·rw [if_neg c5] at H
      exact absurd H (by simp)
    ·rw [if_neg c4] at H
     exact absurd H (by simp)
   ·rw [if_neg c3] at H
    exact absurd H (by simp)
  ·rw [if_neg c2] at H
   exact absurd H (by simp)
end Go.Proofs.YtchhelmilbheoaaDoor.X
