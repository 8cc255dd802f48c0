import Derived.Test.YtmnajajnbmlihaaZOXx0
import Derived.Test.YtmnajajnbmlihaaZOXx32
import Derived.Test.YtmnajajnbmlihaaZOXx33
namespace Go.Proofs.Ytmnajajnbmlihaa.X
open Go.RowKit Go.Proofs.YtmnajajnbmlihaaW.PrintWords Go.Proofs.YtmnajajnbmlihaaW.PrintLast Go.Proofs.YtmnajajnbmlihaaW.PrintMore
attribute [local go_sem] max2_int min2_int max_two min_two max_three min_three max_four min_four   -- for this text's walks alone
open Go.Proofs.YtmnajajnbmlihaaW.HandWords
set_option linter.unusedVariables false
set_option linter.unusedSimpArgs false
mutual
def redlineref11_Changes.l0 : Nat → List (S39) → List (S35) → Int → Option ((List (S35)) × Int)
  | 0, _, _, _ => none
  | k + 1, x0, x5, x6 => if x6 < (x0.length : Int) then (if 0 ≤ x6 then ((redlineref11_At.f ((rd_T39 x0 x6).f0) ((rd_T39 x0 x6).f1) ((rd_T39 x0 x6).f2) ((rd_T39 x0 x6).f3) ((rd_T39 x0 x6).f4)).bind fun bt245 => (redlineref11_Changes.l1 k x0 x5 x6 bt245.1 bt245.2 0)) else (none)) else (some (x5, 0))
def redlineref11_Changes.l1 : Nat → List (S39) → List (S35) → Int → Int → Int → Int → Option ((List (S35)) × Int)
  | 0, _, _, _, _, _, _ => none
  | k + 1, x0, x5, x6, x7, x8, x9 => if 0 ≤ x6 then (if x6 < (x0.length : Int) then (if x9 < (((rd_T39 x0 x6).f4).length : Int) then (if 0 ≤ x9 then (if ((rd_T46 ((rd_T39 x0 x6).f4) x9).f0) = 32 then (redlineref11_Changes.l1 k x0 x5 x6 (wrap64 (x7 + 1)) (wrap64 (x8 + 1)) (wrap64 (x9 + 1))) else (if (wrap64 ((x5.length : Int) - 1)) < 0 then (redlineref11_Changes.j2 k x0 x5 x6 x7 x8 x9 ((rd_T46 ((rd_T39 x0 x6).f4) x9).f0) (wrap64 ((x5.length : Int) - 1)) true) else (if 0 ≤ (wrap64 ((x5.length : Int) - 1)) then (if (wrap64 ((x5.length : Int) - 1)) < (x5.length : Int) then (if (wrap64 (((rd_T35 x5 (wrap64 ((x5.length : Int) - 1))).f0) + ((rd_T35 x5 (wrap64 ((x5.length : Int) - 1))).f1))) = x7 then (redlineref11_Changes.j2 k x0 x5 x6 x7 x8 x9 ((rd_T46 ((rd_T39 x0 x6).f4) x9).f0) (wrap64 ((x5.length : Int) - 1)) ((wrap64 (((rd_T35 x5 (wrap64 ((x5.length : Int) - 1))).f2) + ((rd_T35 x5 (wrap64 ((x5.length : Int) - 1))).f3))) != x8)) else (redlineref11_Changes.j2 k x0 x5 x6 x7 x8 x9 ((rd_T46 ((rd_T39 x0 x6).f4) x9).f0) (wrap64 ((x5.length : Int) - 1)) true)) else (none)) else (none)))) else (none)) else (redlineref11_Changes.l0 k x0 x5 (wrap64 (x6 + 1)))) else (none)) else (none)
def redlineref11_Changes.j2 : Nat → List (S39) → List (S35) → Int → Int → Int → Int → Int → Int → Bool → Option ((List (S35)) × Int)
  | 0, _, _, _, _, _, _, _, _, _ => none
  | k + 1, x0, x5, x6, x7, x8, x9, x10, x11, x90 => if x90 = true then (if x5.length < 4398046511104 then ((some (x5 ++ [(⟨x7, 0, x8, 0⟩ : S35)] : List (S35))).bind fun y254 => (if x10 = 45 then (if 0 ≤ (wrap64 (x11 + 1)) then (if (wrap64 (x11 + 1)) < (y254.length : Int) then (redlineref11_Changes.l1 k x0 (y254.set ((wrap64 (x11 + 1)) : Int).toNat (⟨(rd_T35 y254 (wrap64 (x11 + 1))).f0, wrap64 (((rd_T35 y254 (wrap64 (x11 + 1))).f1) + 1), (rd_T35 y254 (wrap64 (x11 + 1))).f2, (rd_T35 y254 (wrap64 (x11 + 1))).f3⟩ : S35)) x6 (wrap64 (x7 + 1)) x8 (wrap64 (x9 + 1))) else (none)) else (none)) else (if 0 ≤ (wrap64 (x11 + 1)) then (if (wrap64 (x11 + 1)) < (y254.length : Int) then (redlineref11_Changes.l1 k x0 (y254.set ((wrap64 (x11 + 1)) : Int).toNat (⟨(rd_T35 y254 (wrap64 (x11 + 1))).f0, (rd_T35 y254 (wrap64 (x11 + 1))).f1, (rd_T35 y254 (wrap64 (x11 + 1))).f2, wrap64 (((rd_T35 y254 (wrap64 (x11 + 1))).f3) + 1)⟩ : S35)) x6 x7 (wrap64 (x8 + 1)) (wrap64 (x9 + 1))) else (none)) else (none)))) else (none)) else (if x10 = 45 then (if 0 ≤ x11 then (if x11 < (x5.length : Int) then (redlineref11_Changes.l1 k x0 (x5.set (x11 : Int).toNat (⟨(rd_T35 x5 x11).f0, wrap64 (((rd_T35 x5 x11).f1) + 1), (rd_T35 x5 x11).f2, (rd_T35 x5 x11).f3⟩ : S35)) x6 (wrap64 (x7 + 1)) x8 (wrap64 (x9 + 1))) else (none)) else (none)) else (if 0 ≤ x11 then (if x11 < (x5.length : Int) then (redlineref11_Changes.l1 k x0 (x5.set (x11 : Int).toNat (⟨(rd_T35 x5 x11).f0, (rd_T35 x5 x11).f1, (rd_T35 x5 x11).f2, wrap64 (((rd_T35 x5 x11).f3) + 1)⟩ : S35)) x6 x7 (wrap64 (x8 + 1)) (wrap64 (x9 + 1))) else (none)) else (none)))
end
def redlineref11_Changes.f (k : Nat) (l0 : List (S39)) : Option ((List (S35)) × Int) := (redlineref11_Order.f k l0).bind fun t243 => (if t243 = 0 then (redlineref11_Changes.l0 k l0 ([] : List (S35)) 0) else (some (([] : List (S35)), t243)))
set_option maxHeartbeats 8000000 in
set_option maxRecDepth 100000 in
theorem redlineref11_Changes.calls (k : Nat) (A0 : Option Addr) (c0 : Nat) (l0 : List (S39)) (r1 : List (S35)) (r2 : Int) (w : World) (hr0 : Kd.C k39 w A0 l0.length l0) (hc0 : l0.length ≤ c0) (h : redlineref11_Changes.f k l0 = some (r1, r2)) :
    Calls Try.prog 24 #[.slice A0 l0.length c0] w fun e w' => ∃ v0_ : Value, e = .returned (.tuple #[v0_, .int .i64 r2]) ∧ Kd.R k35 35 w' w.heap.size (fun _ => True) v0_ r1 ∧ Below w.heap.size w w' := by
  have hu39 := Try.underlying39
  have hu35 := Try.underlying35
  have HR0 := Aside0.mk hr0
  have HC0 := Aside0.mk hc0
  clear hr0 hc0
  have HB := Aside0.mk (Below.refl w.heap.size w)
  have H : ((redlineref11_Order.f k l0).bind fun t243 => (if t243 = 0 then (redlineref11_Changes.l0 k l0 ([] : List (S35)) 0) else (some (([] : List (S35)), t243)))) = some (r1, r2) := h
  clear h
  replace H := Option.bind_eq_some_iff.mp H
  obtain ⟨t243, A20, H⟩ := H
  replace H : (if t243 = 0 then (redlineref11_Changes.l0 k l0 ([] : List (S35)) 0) else (some (([] : List (S35)), t243))) = some (r1, r2) := H
  have A2 := Aside0.mk A20
  clear A20
  by_cases c3 : t243 = 0
  ·rw [if_pos c3] at H
   have c3b0 : (t243 == 0) = true := beq_iff_eq.mpr c3
   have c3b1 : (t243 != 0) = false := bne_eq_false_iff_eq.mpr c3
   clear c3
   have H' := Aside0.mk H
   clear H
   go_enter Try.func24, Try.ntmps24
   go_wp2_with (first | (go_at_call 26; (with_reducible refine (redlineref11_Order.calls k _ _ l0 t243 _ ?side1 ?side2 A2.out).mono ?_); (case side1 => repeat (first | exact HR0.out | (with_reducible refine Kd.C_alloc ?_ _) | (with_reducible refine Kd.C_drewN ?_ _) | (with_reducible refine Kd.C_drew ?_))); (case side2 => exact HC0.out); rintro e w4 ⟨rfl, hb⟩; have n0_ := Aside0.mk (below_step (by repeat (first | (with_reducible first | exact HB.out | apply below_alloc | apply pw_below_drewN | apply below_drew1) | exact HB.out)) hb); clear HB; have HB := n0_; clear n0_; (try clear hb); (try clear hb2); (try clear hk); (try clear hi)))
   repeat (go_quiet (first | (go_at_call 26; (with_reducible refine (redlineref11_Order.calls k _ _ l0 t243 _ ?side1 ?side2 A2.out).mono ?_); (case side1 => repeat (first | exact HR0.out | (with_reducible refine Kd.C_alloc ?_ _) | (with_reducible refine Kd.C_drewN ?_ _) | (with_reducible refine Kd.C_drew ?_))); (case side2 => exact HC0.out); rintro e w4 ⟨rfl, hb⟩; have n0_ := Aside0.mk (below_step (by repeat (first | (with_reducible first | exact HB.out | apply below_alloc | apply pw_below_drewN | apply below_drew1) | exact HB.out)) hb); clear HB; have HB := n0_; clear n0_; (try clear hb); (try clear hb2); (try clear hk); (try clear hi))); try go_wp2_with (first | (go_at_call 26; (with_reducible refine (redlineref11_Order.calls k _ _ l0 t243 _ ?side1 ?side2 A2.out).mono ?_); (case side1 => repeat (first | exact HR0.out | (with_reducible refine Kd.C_alloc ?_ _) | (with_reducible refine Kd.C_drewN ?_ _) | (with_reducible refine Kd.C_drew ?_))); (case side2 => exact HC0.out); rintro e w4 ⟨rfl, hb⟩; have n0_ := Aside0.mk (below_step (by repeat (first | (with_reducible first | exact HB.out | apply below_alloc | apply pw_below_drewN | apply below_drew1) | exact HB.out)) hb); clear HB; have HB := n0_; clear n0_; (try clear hb); (try clear hb2); (try clear hk); (try clear hi))))
   go_loopg [5, 6] k (fun kq v5 v6 w' => ∃ (x5_1 : List (S35)) (x6_1 : Int), v6 = .int .i64 x6_1 ∧ Aside0 (redlineref11_Changes.l0 kq l0 x5_1 x6_1 = some (r1, r2)) ∧ Aside0 (kq ≤ k) ∧ Aside0 (Kd.R k35 35 w' w.heap.size (fun _ => True) v5 x5_1) ∧ Aside0 (Below w.heap.size w w'))
   case atStart => exact ⟨(([] : List (S35))), (0), (by first | rfl | (simp; done) | (simp [*]; done)), H', ⟨Nat.le_refl _⟩, ⟨by first | exact Kd.R_nil _ _ _ _ _ | exact Kd.N_nil _ _ _ _ _ | exact Kd.V_nil _ _ _ _ _ | exact Kd.Q_nil _ _ _ _ _ | exact Kd.S_nil _ _ _ _ _⟩, ⟨by repeat (first | (with_reducible first | exact HB.out | apply below_alloc | apply pw_below_drewN | apply below_drew1) | exact HB.out)⟩⟩
   case round =>
    clear H'
    try clear c2
    try clear p2
    try clear c3
    try clear c3b0
    try clear c3b1
    obtain ⟨x5_1, x6_1, rfl, HA, HK1, HO_5, HB⟩ := hrel
    cases gk with
    | zero => exact absurd HA.out (by simp [redlineref11_Changes.l0])
    | succ k1 =>
     have H := HA.out
     clear HA
     simp only [redlineref11_Changes.l0] at H
     by_cases c5 : x6_1 < (l0.length : Int)
     ·rw [if_pos c5] at H
      have c5b0 : decide (x6_1 < (l0.length : Int)) = true := decide_eq_true c5
      clear c5
      by_cases c6 : 0 ≤ x6_1
      ·rw [if_pos c6] at H
       have c6b0 : decide (0 ≤ x6_1) = true := decide_eq_true c6
       clear c6
       replace H := Option.bind_eq_some_iff.mp H
       obtain ⟨⟨t245, t246⟩, A70, H⟩ := H
       replace H : (redlineref11_Changes.l1 k1 l0 x5_1 x6_1 t245 t246 0) = some (r1, r2) := H
       have A7 := Aside0.mk A70
       clear A70
       have H' := Aside0.mk H
       clear H
       have p244 : 0 ≤ (x6_1 : Int) := of_decide_eq_true (by first | (with_reducible assumption) | assumption)
       have q244 : x6_1 < (l0.length : Int) := of_decide_eq_true (by first | (with_reducible assumption) | assumption)
       obtain ⟨ad244, A244_4, c244_4, e244, hx244_0, hx244_1, hx244_2, hx244_3, hx244_4, hl244_4, hi244_4⟩ := at_T39 HR0.out x6_1 p244 q244
       cases e244
       replace hx244_0 := (HB.out.cell (World.block_lt_of_cell? w _ hx244_0)).trans hx244_0
       replace hx244_1 := (HB.out.cell (World.block_lt_of_cell? w _ hx244_1)).trans hx244_1
       replace hx244_2 := (HB.out.cell (World.block_lt_of_cell? w _ hx244_2)).trans hx244_2
       replace hx244_3 := (HB.out.cell (World.block_lt_of_cell? w _ hx244_3)).trans hx244_3
       replace hx244_4 := (HB.out.cell (World.block_lt_of_cell? w _ hx244_4)).trans hx244_4
       have HR244_4 := Aside0.mk hi244_4
       have HC244_4 := Aside0.mk hl244_4
       clear hi244_4 hl244_4
       replace p244 := eq_true p244
       replace q244 := eq_true q244
       go_wp2_with (first | (go_at_call 42; (with_reducible refine (redlineref11_At.calls ((rd_T39 l0 x6_1).f0) ((rd_T39 l0 x6_1).f1) ((rd_T39 l0 x6_1).f2) ((rd_T39 l0 x6_1).f3) _ _ ((rd_T39 l0 x6_1).f4) t245 t246 _ ?side1 ?side2 A7.out).mono ?_); (case side1 => repeat (first | exact (Kd.C_below HR244_4.out HB.out) | (with_reducible refine Kd.C_alloc ?_ _) | (with_reducible refine Kd.C_drewN ?_ _) | (with_reducible refine Kd.C_drew ?_))); (case side2 => exact HC244_4.out); rintro e w8 ⟨rfl, hb⟩; have n0_ := Aside0.mk (Kd.R_below (by (with_reducible repeat (first | apply Kd.R_alloc | apply Kd.R_drewN | apply Kd.R_drew)); exact HO_5.out) hb); have n1_ := Aside0.mk (below_step (by repeat (first | (with_reducible first | exact HB.out | apply below_alloc | apply pw_below_drewN | apply below_drew1) | exact HB.out)) hb); clear HO_5; clear HB; have HO_5 := n0_; have HB := n1_; clear n0_ n1_; (try clear hb); (try clear hb2); (try clear hk); (try clear hi)))
       repeat (go_quiet (first | (go_at_call 42; (with_reducible refine (redlineref11_At.calls ((rd_T39 l0 x6_1).f0) ((rd_T39 l0 x6_1).f1) ((rd_T39 l0 x6_1).f2) ((rd_T39 l0 x6_1).f3) _ _ ((rd_T39 l0 x6_1).f4) t245 t246 _ ?side1 ?side2 A7.out).mono ?_); (case side1 => repeat (first | exact (Kd.C_below HR244_4.out HB.out) | (with_reducible refine Kd.C_alloc ?_ _) | (with_reducible refine Kd.C_drewN ?_ _) | (with_reducible refine Kd.C_drew ?_))); (case side2 => exact HC244_4.out); rintro e w8 ⟨rfl, hb⟩; have n0_ := Aside0.mk (Kd.R_below (by (with_reducible repeat (first | apply Kd.R_alloc | apply Kd.R_drewN | apply Kd.R_drew)); exact HO_5.out) hb); have n1_ := Aside0.mk (below_step (by repeat (first | (with_reducible first | exact HB.out | apply below_alloc | apply pw_below_drewN | apply below_drew1) | exact HB.out)) hb); clear HO_5; clear HB; have HO_5 := n0_; have HB := n1_; clear n0_ n1_; (try clear hb); (try clear hb2); (try clear hk); (try clear hi))); try go_wp2_with (first | (go_at_call 42; (with_reducible refine (redlineref11_At.calls ((rd_T39 l0 x6_1).f0) ((rd_T39 l0 x6_1).f1) ((rd_T39 l0 x6_1).f2) ((rd_T39 l0 x6_1).f3) _ _ ((rd_T39 l0 x6_1).f4) t245 t246 _ ?side1 ?side2 A7.out).mono ?_); (case side1 => repeat (first | exact (Kd.C_below HR244_4.out HB.out) | (with_reducible refine Kd.C_alloc ?_ _) | (with_reducible refine Kd.C_drewN ?_ _) | (with_reducible refine Kd.C_drew ?_))); (case side2 => exact HC244_4.out); rintro e w8 ⟨rfl, hb⟩; have n0_ := Aside0.mk (Kd.R_below (by (with_reducible repeat (first | apply Kd.R_alloc | apply Kd.R_drewN | apply Kd.R_drew)); exact HO_5.out) hb); have n1_ := Aside0.mk (below_step (by repeat (first | (with_reducible first | exact HB.out | apply below_alloc | apply pw_below_drewN | apply below_drew1) | exact HB.out)) hb); clear HO_5; clear HB; have HO_5 := n0_; have HB := n1_; clear n0_ n1_; (try clear hb); (try clear hb2); (try clear hk); (try clear hi))))
       go_loopg [5, 7, 8, 9] k1 (fun kq v5 v7 v8 v9 w' => ∃ (x5_2 : List (S35)) (x7_2 : Int) (x8_2 : Int) (x9_2 : Int), v7 = .int .i64 x7_2 ∧ v8 = .int .i64 x8_2 ∧ v9 = .int .i64 x9_2 ∧ Aside0 (redlineref11_Changes.l1 kq l0 x5_2 x6_1 x7_2 x8_2 x9_2 = some (r1, r2)) ∧ Aside0 (kq ≤ k1) ∧ Aside0 (Kd.R k35 35 w' w.heap.size (fun _ => True) v5 x5_2) ∧ Aside0 (Below w.heap.size w w'))
       case atStart => exact ⟨(x5_1), (t245), (t246), (0), (by first | rfl | (simp; done) | (simp [*]; done)), (by first | rfl | (simp; done) | (simp [*]; done)), (by first | rfl | (simp; done) | (simp [*]; done)), H', ⟨Nat.le_refl _⟩, ⟨by (with_reducible repeat (first | apply Kd.R_alloc | apply Kd.R_drewN | apply Kd.R_drew)); exact HO_5.out⟩, ⟨by repeat (first | (with_reducible first | exact HB.out | apply below_alloc | apply pw_below_drewN | apply below_drew1) | exact HB.out)⟩⟩
       case round =>
        clear H'
        try clear c2
        try clear p2
        try clear q2
        try clear hx2
        try clear c3
        try clear c3b0
        try clear c3b1
        try clear c5
        try clear c5b0
        try clear c6
        try clear c6b0
        try clear hx244_0
        try clear hx244_1
        try clear hx244_2
        try clear hx244_3
        try clear hx244_4
        try clear p2
        try clear p244
        try clear q244
        obtain ⟨x5_2, x7_2, x8_2, x9_2, rfl, rfl, rfl, HA, HK2, HO_5, HB⟩ := hrel
        cases gk with
        | zero => exact absurd HA.out (by simp [redlineref11_Changes.l1])
        | succ k2 =>
         have H := HA.out
         clear HA
         simp only [redlineref11_Changes.l1] at H
         by_cases c9 : 0 ≤ x6_1
         ·rw [if_pos c9] at H
          have c9b0 : decide (0 ≤ x6_1) = true := decide_eq_true c9
          clear c9
          by_cases c10 : x6_1 < (l0.length : Int)
          ·rw [if_pos c10] at H
           have c10b0 : decide (x6_1 < (l0.length : Int)) = true := decide_eq_true c10
           clear c10
           by_cases c11 : x9_2 < (((rd_T39 l0 x6_1).f4).length : Int)
           ·rw [if_pos c11] at H
            have c11b0 : decide (x9_2 < (((rd_T39 l0 x6_1).f4).length : Int)) = true := decide_eq_true c11
            clear c11
            by_cases c12 : 0 ≤ x9_2
            ·rw [if_pos c12] at H
             have c12b0 : decide (0 ≤ x9_2) = true := decide_eq_true c12
             clear c12
             by_cases c13 : ((rd_T46 ((rd_T39 l0 x6_1).f4) x9_2).f0) = 32
             ·rw [if_pos c13] at H
              have c13b0 : (((rd_T46 ((rd_T39 l0 x6_1).f4) x9_2).f0) == 32) = true := beq_iff_eq.mpr c13
              have c13b1 : (((rd_T46 ((rd_T39 l0 x6_1).f4) x9_2).f0) != 32) = false := bne_eq_false_iff_eq.mpr c13
              clear c13
              have H' := Aside0.mk H
              clear H
              have p247 : 0 ≤ (x6_1 : Int) := of_decide_eq_true (by first | (with_reducible assumption) | assumption)
              have q247 : x6_1 < (l0.length : Int) := of_decide_eq_true (by first | (with_reducible assumption) | assumption)
              obtain ⟨ad247, A247_4, c247_4, e247, hx247_0, hx247_1, hx247_2, hx247_3, hx247_4, hl247_4, hi247_4⟩ := at_T39 HR0.out x6_1 p247 q247
              obtain rfl : ad244 = ad247 := (by injection e247)
              replace hx247_0 := (HB.out.cell (World.block_lt_of_cell? w _ hx247_0)).trans hx247_0
              replace hx247_1 := (HB.out.cell (World.block_lt_of_cell? w _ hx247_1)).trans hx247_1
              replace hx247_2 := (HB.out.cell (World.block_lt_of_cell? w _ hx247_2)).trans hx247_2
              replace hx247_3 := (HB.out.cell (World.block_lt_of_cell? w _ hx247_3)).trans hx247_3
              replace hx247_4 := (HB.out.cell (World.block_lt_of_cell? w _ hx247_4)).trans hx247_4
              have HR247_4 := Aside0.mk hi247_4
              have HC247_4 := Aside0.mk hl247_4
              clear hi247_4 hl247_4
              replace p247 := eq_true p247
              replace q247 := eq_true q247
              have p248 : 0 ≤ (x6_1 : Int) := of_decide_eq_true (by first | (with_reducible assumption) | assumption)
              have q248 : x6_1 < (l0.length : Int) := of_decide_eq_true (by first | (with_reducible assumption) | assumption)
              obtain ⟨ad248, A248_4, c248_4, e248, hx248_0, hx248_1, hx248_2, hx248_3, hx248_4, hl248_4, hi248_4⟩ := at_T39 HR0.out x6_1 p248 q248
              obtain rfl : ad244 = ad248 := (by injection e248)
              replace hx248_0 := (HB.out.cell (World.block_lt_of_cell? w _ hx248_0)).trans hx248_0
              replace hx248_1 := (HB.out.cell (World.block_lt_of_cell? w _ hx248_1)).trans hx248_1
              replace hx248_2 := (HB.out.cell (World.block_lt_of_cell? w _ hx248_2)).trans hx248_2
              replace hx248_3 := (HB.out.cell (World.block_lt_of_cell? w _ hx248_3)).trans hx248_3
              replace hx248_4 := (HB.out.cell (World.block_lt_of_cell? w _ hx248_4)).trans hx248_4
              have HR248_4 := Aside0.mk hi248_4
              have HC248_4 := Aside0.mk hl248_4
              clear hi248_4 hl248_4
              replace p248 := eq_true p248
              replace q248 := eq_true q248
              have ea_ := Option.some.inj (hx247_4.symm.trans hx248_4)
              injection ea_ with ea_ en_ ec_
              subst ea_
              subst ec_
              clear en_
              have p249 : 0 ≤ (x9_2 : Int) := of_decide_eq_true (by first | (with_reducible assumption) | assumption)
              have q249 : x9_2 < (((rd_T39 l0 x6_1).f4).length : Int) := of_decide_eq_true (by first | (with_reducible assumption) | assumption)
              obtain ⟨ad249, e249, hx249_0, hx249_1⟩ := at_T46 HR248_4.out x9_2 p249 q249
              cases e249
              replace hx249_0 := (HB.out.cell (World.block_lt_of_cell? w _ hx249_0)).trans hx249_0
              replace hx249_1 := (HB.out.cell (World.block_lt_of_cell? w _ hx249_1)).trans hx249_1
              replace p249 := eq_true p249
              replace q249 := eq_true q249
              obtain ⟨Ao14, co14, eo14⟩ := Kd.R_slice HO_5.out
              subst eo14
              go_wp2
              repeat (go_quiet (fail); try go_wp2)
              go_roundg k2
              case measure => have := HK1.out; have := HK2.out; omega
              case rel => exact ⟨(x5_2), (wrap64 (x7_2 + 1)), (wrap64 (x8_2 + 1)), (wrap64 (x9_2 + 1)), (by first | rfl | (simp; done) | (simp [*]; done)), (by first | rfl | (simp; done) | (simp [*]; done)), (by first | rfl | (simp; done) | (simp [*]; done)), (by first | exact H' | (rw [hji18]; exact H')), ⟨by have := HK1.out; have := HK2.out; omega⟩, ⟨by (with_reducible repeat (first | apply Kd.R_alloc | apply Kd.R_drewN | apply Kd.R_drew)); exact HO_5.out⟩, ⟨by repeat (first | (with_reducible first | exact HB.out | apply below_alloc | apply pw_below_drewN | apply below_drew1) | exact HB.out)⟩⟩
             ·rw [if_neg c13] at H
              have c13b0 : (((rd_T46 ((rd_T39 l0 x6_1).f4) x9_2).f0) == 32) = false := beq_eq_false_iff_ne.mpr c13
              have c13b1 : (((rd_T46 ((rd_T39 l0 x6_1).f4) x9_2).f0) != 32) = true := bne_iff_ne.mpr c13
              have HC15 := Aside0.mk H
              clear H
              have p247 : 0 ≤ (x6_1 : Int) := of_decide_eq_true (by first | (with_reducible assumption) | assumption)
              have q247 : x6_1 < (l0.length : Int) := of_decide_eq_true (by first | (with_reducible assumption) | assumption)
              obtain ⟨ad247, A247_4, c247_4, e247, hx247_0, hx247_1, hx247_2, hx247_3, hx247_4, hl247_4, hi247_4⟩ := at_T39 HR0.out x6_1 p247 q247
              obtain rfl : ad244 = ad247 := (by injection e247)
              replace hx247_0 := (HB.out.cell (World.block_lt_of_cell? w _ hx247_0)).trans hx247_0
              replace hx247_1 := (HB.out.cell (World.block_lt_of_cell? w _ hx247_1)).trans hx247_1
              replace hx247_2 := (HB.out.cell (World.block_lt_of_cell? w _ hx247_2)).trans hx247_2
              replace hx247_3 := (HB.out.cell (World.block_lt_of_cell? w _ hx247_3)).trans hx247_3
              replace hx247_4 := (HB.out.cell (World.block_lt_of_cell? w _ hx247_4)).trans hx247_4
              have HR247_4 := Aside0.mk hi247_4
              have HC247_4 := Aside0.mk hl247_4
              clear hi247_4 hl247_4
              replace p247 := eq_true p247
              replace q247 := eq_true q247
              have p248 : 0 ≤ (x6_1 : Int) := of_decide_eq_true (by first | (with_reducible assumption) | assumption)
              have q248 : x6_1 < (l0.length : Int) := of_decide_eq_true (by first | (with_reducible assumption) | assumption)
              obtain ⟨ad248, A248_4, c248_4, e248, hx248_0, hx248_1, hx248_2, hx248_3, hx248_4, hl248_4, hi248_4⟩ := at_T39 HR0.out x6_1 p248 q248
              obtain rfl : ad244 = ad248 := (by injection e248)
              replace hx248_0 := (HB.out.cell (World.block_lt_of_cell? w _ hx248_0)).trans hx248_0
              replace hx248_1 := (HB.out.cell (World.block_lt_of_cell? w _ hx248_1)).trans hx248_1
              replace hx248_2 := (HB.out.cell (World.block_lt_of_cell? w _ hx248_2)).trans hx248_2
              replace hx248_3 := (HB.out.cell (World.block_lt_of_cell? w _ hx248_3)).trans hx248_3
              replace hx248_4 := (HB.out.cell (World.block_lt_of_cell? w _ hx248_4)).trans hx248_4
              have HR248_4 := Aside0.mk hi248_4
              have HC248_4 := Aside0.mk hl248_4
              clear hi248_4 hl248_4
              replace p248 := eq_true p248
              replace q248 := eq_true q248
              have ea_ := Option.some.inj (hx247_4.symm.trans hx248_4)
              injection ea_ with ea_ en_ ec_
              subst ea_
              subst ec_
              clear en_
              have p249 : 0 ≤ (x9_2 : Int) := of_decide_eq_true (by first | (with_reducible assumption) | assumption)
              have q249 : x9_2 < (((rd_T39 l0 x6_1).f4).length : Int) := of_decide_eq_true (by first | (with_reducible assumption) | assumption)
              obtain ⟨ad249, e249, hx249_0, hx249_1⟩ := at_T46 HR248_4.out x9_2 p249 q249
              cases e249
              replace hx249_0 := (HB.out.cell (World.block_lt_of_cell? w _ hx249_0)).trans hx249_0
              replace hx249_1 := (HB.out.cell (World.block_lt_of_cell? w _ hx249_1)).trans hx249_1
              replace p249 := eq_true p249
              replace q249 := eq_true q249
              obtain ⟨Ao16, co16, eo16⟩ := Kd.R_slice HO_5.out
              subst eo16
              go_upto_region 17 with (fail)
              repeat (go_quiet (fail); go_upto_region 17 with (fail))
              go_cut [90] (fun v90 wc => ∃ (kq : Nat) (x90_14 : Bool), v90 = .bool x90_14 ∧ Aside0 (redlineref11_Changes.j2 kq l0 x5_2 x6_1 x7_2 x8_2 x9_2 ((rd_T46 ((rd_T39 l0 x6_1).f4) x9_2).f0) (wrap64 ((x5_2.length : Int) - 1)) x90_14 = some (r1, r2)) ∧ Aside0 (kq ≤ k2) ∧ Aside0 (Kd.R k35 35 wc w.heap.size (fun _ => True) (.slice Ao16 x5_2.length co16) x5_2) ∧ Aside0 (Below w.heap.size w wc))
              case first =>
               have H := HC15.out
               clear HC15
               by_cases c17 : (wrap64 ((x5_2.length : Int) - 1)) < 0
               ·rw [if_pos c17] at H
                have c17b0 : decide ((wrap64 ((x5_2.length : Int) - 1)) < 0) = true := decide_eq_true c17
                clear c17
                (first | rw [c17b0] | rw [c17b1] | (simp only [i64_w, i32_w]; rw [c17b0]) | skip)
                have H' := Aside0.mk H
                clear H
                go_wp2
                repeat (go_quiet (fail); try go_wp2)
                (try rw [← hji18])
                go_meet
                case rel => exact ⟨_, (true), (by first | rfl | (simp; done) | (simp [*]; done)), (by first | exact H' | (rw [hji18]; exact H')), ⟨by have := HK1.out; have := HK2.out; first | omega | exact Nat.le_refl _⟩, ⟨by (with_reducible repeat (first | apply Kd.R_alloc | apply Kd.R_drewN | apply Kd.R_drew)); exact HO_5.out⟩, ⟨by repeat (first | (with_reducible first | exact HB.out | apply below_alloc | apply pw_below_drewN | apply below_drew1) | exact HB.out)⟩⟩
               ·rw [if_neg c17] at H
                have c17b0 : decide ((wrap64 ((x5_2.length : Int) - 1)) < 0) = false := decide_eq_false c17
                clear c17
                (first | rw [c17b0] | rw [c17b1] | (simp only [i64_w, i32_w]; rw [c17b0]) | skip)
                obtain ⟨ji18, hji18⟩ : ∃ j_ : Int, (wrap64 ((x5_2.length : Int) - 1)) = j_ := ⟨_, rfl⟩
                replace H : (if 0 ≤ (ji18) then (if (ji18) < (x5_2.length : Int) then (if (wrap64 (((rd_T35 x5_2 (ji18)).f0) + ((rd_T35 x5_2 (ji18)).f1))) = x7_2 then (redlineref11_Changes.j2 k2 l0 x5_2 x6_1 x7_2 x8_2 x9_2 ((rd_T46 ((rd_T39 l0 x6_1).f4) x9_2).f0) ji18 ((wrap64 (((rd_T35 x5_2 (ji18)).f2) + ((rd_T35 x5_2 (ji18)).f3))) != x8_2)) else (redlineref11_Changes.j2 k2 l0 x5_2 x6_1 x7_2 x8_2 x9_2 ((rd_T46 ((rd_T39 l0 x6_1).f4) x9_2).f0) ji18 true)) else (none)) else (none)) = some (r1, r2) := by first | (rw [hji18] at H; exact H) | (simp only [hji18] at H ⊢; exact H)
                (try rw [hji18] at c17b0)
                have hji18w : (IntKind.i64.wrap ((x5_2.length : Int) - 1)) = ji18 := (i64_w _).trans hji18
                by_cases c19 : 0 ≤ (ji18)
                ·rw [if_pos c19] at H
                 have c19b0 : decide (0 ≤ (ji18)) = true := decide_eq_true c19
                 clear c19
                 by_cases c20 : (ji18) < (x5_2.length : Int)
                 ·rw [if_pos c20] at H
                  have c20b0 : decide ((ji18) < (x5_2.length : Int)) = true := decide_eq_true c20
                  clear c20
                  by_cases c21 : (wrap64 (((rd_T35 x5_2 (ji18)).f0) + ((rd_T35 x5_2 (ji18)).f1))) = x7_2
                  ·rw [if_pos c21] at H
                   have c21b0 : ((wrap64 (((rd_T35 x5_2 (ji18)).f0) + ((rd_T35 x5_2 (ji18)).f1))) == x7_2) = true := beq_iff_eq.mpr c21
                   have c21b1 : ((wrap64 (((rd_T35 x5_2 (ji18)).f0) + ((rd_T35 x5_2 (ji18)).f1))) != x7_2) = false := bne_eq_false_iff_eq.mpr c21
                   clear c21
                   have H' := Aside0.mk H
                   clear H
                   have p250 : 0 ≤ ((ji18) : Int) := of_decide_eq_true (by first | (with_reducible assumption) | assumption)
                   have q250 : (ji18) < (x5_2.length : Int) := of_decide_eq_true (by first | (with_reducible assumption) | assumption)
                   obtain ⟨ad250, e250, hx250_0, hx250_1, hx250_2, hx250_3⟩ := at_T35 (Kd.R_reads' HO_5.out).2.2 (ji18) p250 q250
                   cases e250
                   replace p250 := eq_true p250
                   replace q250 := eq_true q250
                   have p251 : 0 ≤ ((ji18) : Int) := of_decide_eq_true (by first | (with_reducible assumption) | assumption)
                   have q251 : (ji18) < (x5_2.length : Int) := of_decide_eq_true (by first | (with_reducible assumption) | assumption)
                   obtain ⟨ad251, e251, hx251_0, hx251_1, hx251_2, hx251_3⟩ := at_T35 (Kd.R_reads' HO_5.out).2.2 (ji18) p251 q251
                   obtain rfl : ad250 = ad251 := (by injection e251)
                   replace p251 := eq_true p251
                   replace q251 := eq_true q251
                   have p252 : 0 ≤ ((ji18) : Int) := of_decide_eq_true (by first | (with_reducible assumption) | assumption)
                   have q252 : (ji18) < (x5_2.length : Int) := of_decide_eq_true (by first | (with_reducible assumption) | assumption)
                   obtain ⟨ad252, e252, hx252_0, hx252_1, hx252_2, hx252_3⟩ := at_T35 (Kd.R_reads' HO_5.out).2.2 (ji18) p252 q252
                   obtain rfl : ad250 = ad252 := (by injection e252)
                   replace p252 := eq_true p252
                   replace q252 := eq_true q252
                   have p253 : 0 ≤ ((ji18) : Int) := of_decide_eq_true (by first | (with_reducible assumption) | assumption)
                   have q253 : (ji18) < (x5_2.length : Int) := of_decide_eq_true (by first | (with_reducible assumption) | assumption)
                   obtain ⟨ad253, e253, hx253_0, hx253_1, hx253_2, hx253_3⟩ := at_T35 (Kd.R_reads' HO_5.out).2.2 (ji18) p253 q253
                   obtain rfl : ad250 = ad253 := (by injection e253)
                   replace p253 := eq_true p253
                   replace q253 := eq_true q253
                   go_wp2
                   repeat (go_quiet (fail); try go_wp2)
                   (try rw [← hji18])
                   go_meet
                   case rel => exact ⟨_, (((wrap64 (((rd_T35 x5_2 (ji18)).f2) + ((rd_T35 x5_2 (ji18)).f3))) != x8_2)), (by first | rfl | (simp; done) | (simp only [← hji18] <;> (first | rfl | simp)) | (simp [*]; done)), (by first | exact H' | (rw [hji18]; exact H')), ⟨by have := HK1.out; have := HK2.out; first | omega | exact Nat.le_refl _⟩, ⟨by (with_reducible repeat (first | apply Kd.R_alloc | apply Kd.R_drewN | apply Kd.R_drew)); exact HO_5.out⟩, ⟨by repeat (first | (with_reducible first | exact HB.out | apply below_alloc | apply pw_below_drewN | apply below_drew1) | exact HB.out)⟩⟩
                  ·rw [if_neg c21] at H
                   have c21b0 : ((wrap64 (((rd_T35 x5_2 (ji18)).f0) + ((rd_T35 x5_2 (ji18)).f1))) == x7_2) = false := beq_eq_false_iff_ne.mpr c21
                   have c21b1 : ((wrap64 (((rd_T35 x5_2 (ji18)).f0) + ((rd_T35 x5_2 (ji18)).f1))) != x7_2) = true := bne_iff_ne.mpr c21
                   have H' := Aside0.mk H
                   clear H
                   have p250 : 0 ≤ ((ji18) : Int) := of_decide_eq_true (by first | (with_reducible assumption) | assumption)
                   have q250 : (ji18) < (x5_2.length : Int) := of_decide_eq_true (by first | (with_reducible assumption) | assumption)
                   obtain ⟨ad250, e250, hx250_0, hx250_1, hx250_2, hx250_3⟩ := at_T35 (Kd.R_reads' HO_5.out).2.2 (ji18) p250 q250
                   cases e250
                   replace p250 := eq_true p250
                   replace q250 := eq_true q250
                   have p251 : 0 ≤ ((ji18) : Int) := of_decide_eq_true (by first | (with_reducible assumption) | assumption)
                   have q251 : (ji18) < (x5_2.length : Int) := of_decide_eq_true (by first | (with_reducible assumption) | assumption)
                   obtain ⟨ad251, e251, hx251_0, hx251_1, hx251_2, hx251_3⟩ := at_T35 (Kd.R_reads' HO_5.out).2.2 (ji18) p251 q251
                   obtain rfl : ad250 = ad251 := (by injection e251)
                   replace p251 := eq_true p251
                   replace q251 := eq_true q251
                   go_wp2
                   repeat (go_quiet (fail); try go_wp2)
                   (try rw [← hji18])
                   go_meet
                   case rel => exact ⟨_, (true), (by first | rfl | (simp; done) | (simp [*]; done)), (by first | exact H' | (rw [hji18]; exact H')), ⟨by have := HK1.out; have := HK2.out; first | omega | exact Nat.le_refl _⟩, ⟨by (with_reducible repeat (first | apply Kd.R_alloc | apply Kd.R_drewN | apply Kd.R_drew)); exact HO_5.out⟩, ⟨by repeat (first | (with_reducible first | exact HB.out | apply below_alloc | apply pw_below_drewN | apply below_drew1) | exact HB.out)⟩⟩
                 ·rw [if_neg c20] at H
                  exact absurd H (by simp)
                ·rw [if_neg c19] at H
                 exact absurd H (by simp)
              case rest =>
               clear HC15
               try clear c1
               try clear c2
               try clear p2
               try clear q2
               try clear hx2
               try clear c3
               try clear c3b0
               try clear c3b1
               try clear c5
               try clear c5b0
               try clear c6
               try clear c6b0
               try clear p6
               try clear c9
               try clear c9b0
               try clear c10
               try clear c10b0
               try clear c11
               try clear c11b0
               try clear c12
               try clear c12b0
               try clear c13
               try clear c13b0
               try clear c13b1
               try clear c17
               try clear c17b0
               try clear c17b1
               try clear c19
               try clear c19b0
               try clear c20
               try clear c20b0
               try clear c21
               try clear c21b0
               try clear c21b1
               try clear hx244_0
               try clear hx244_1
               try clear hx244_2
               try clear hx244_3
               try clear hx244_4
               try clear hx247_0
               try clear hx247_1
               try clear hx247_2
               try clear hx247_3
               try clear hx247_4
               try clear hx248_0
               try clear hx248_1
               try clear hx248_2
               try clear hx248_3
               try clear hx248_4
               try clear hx249_0
               try clear hx249_1
               try clear hx250_0
               try clear hx250_1
               try clear hx250_2
               try clear hx250_3
               try clear hx251_0
               try clear hx251_1
               try clear hx251_2
               try clear hx251_3
               try clear hx252_0
               try clear hx252_1
               try clear hx252_2
               try clear hx252_3
               try clear hx253_0
               try clear hx253_1
               try clear hx253_2
               try clear hx253_3
               try clear p2
               try clear p244
               try clear p247
               try clear p248
               try clear p249
               try clear p250
               try clear p251
               try clear p252
               try clear p253
               try clear q2
               try clear q244
               try clear q247
               try clear q248
               try clear q249
               try clear q250
               try clear q251
               try clear q252
               try clear q253
               obtain ⟨kq, x90_14, rfl, HA, HJ14, HO_5, HB⟩ := hcut
               cases kq with
               | zero => exact absurd HA.out (by simp [redlineref11_Changes.j2])
               | succ kj14 =>
                have H := HA.out
                clear HA
                simp only [redlineref11_Changes.j2] at H
                by_cases c22 : x90_14 = true
                ·subst c22
                 have H1 : (if x5_2.length < 4398046511104 then ((some (x5_2 ++ [(⟨x7_2, 0, x8_2, 0⟩ : S35)] : List (S35))).bind fun y254 => (if ((rd_T46 ((rd_T39 l0 x6_1).f4) x9_2).f0) = 45 then (if 0 ≤ (wrap64 ((wrap64 ((x5_2.length : Int) - 1)) + 1)) then (if (wrap64 ((wrap64 ((x5_2.length : Int) - 1)) + 1)) < (y254.length : Int) then (redlineref11_Changes.l1 kj14 l0 (y254.set ((wrap64 ((wrap64 ((x5_2.length : Int) - 1)) + 1)) : Int).toNat (⟨(rd_T35 y254 (wrap64 ((wrap64 ((x5_2.length : Int) - 1)) + 1))).f0, wrap64 (((rd_T35 y254 (wrap64 ((wrap64 ((x5_2.length : Int) - 1)) + 1))).f1) + 1), (rd_T35 y254 (wrap64 ((wrap64 ((x5_2.length : Int) - 1)) + 1))).f2, (rd_T35 y254 (wrap64 ((wrap64 ((x5_2.length : Int) - 1)) + 1))).f3⟩ : S35)) x6_1 (wrap64 (x7_2 + 1)) x8_2 (wrap64 (x9_2 + 1))) else (none)) else (none)) else (if 0 ≤ (wrap64 ((wrap64 ((x5_2.length : Int) - 1)) + 1)) then (if (wrap64 ((wrap64 ((x5_2.length : Int) - 1)) + 1)) < (y254.length : Int) then (redlineref11_Changes.l1 kj14 l0 (y254.set ((wrap64 ((wrap64 ((x5_2.length : Int) - 1)) + 1)) : Int).toNat (⟨(rd_T35 y254 (wrap64 ((wrap64 ((x5_2.length : Int) - 1)) + 1))).f0, (rd_T35 y254 (wrap64 ((wrap64 ((x5_2.length : Int) - 1)) + 1))).f1, (rd_T35 y254 (wrap64 ((wrap64 ((x5_2.length : Int) - 1)) + 1))).f2, wrap64 (((rd_T35 y254 (wrap64 ((wrap64 ((x5_2.length : Int) - 1)) + 1))).f3) + 1)⟩ : S35)) x6_1 x7_2 (wrap64 (x8_2 + 1)) (wrap64 (x9_2 + 1))) else (none)) else (none)))) else (none)) = some (r1, r2) := by rw [if_pos rfl] at H; exact H
                 clear H
                 have H := H1
                 clear H1
                 by_cases c23 : x5_2.length < 4398046511104
                 ·rw [if_pos c23] at H
                  have LMc23 := Aside0.mk c23
                  clear c23
                  obtain ⟨y254, hy254⟩ : ∃ y_ : List (S35), y_ = (x5_2 ++ [(⟨x7_2, 0, x8_2, 0⟩ : S35)]) := ⟨_, rfl⟩
                  replace H : (if ((rd_T46 ((rd_T39 l0 x6_1).f4) x9_2).f0) = 45 then (if 0 ≤ (wrap64 ((wrap64 ((x5_2.length : Int) - 1)) + 1)) then (if (wrap64 ((wrap64 ((x5_2.length : Int) - 1)) + 1)) < (y254.length : Int) then (redlineref11_Changes.l1 kj14 l0 (y254.set ((wrap64 ((wrap64 ((x5_2.length : Int) - 1)) + 1)) : Int).toNat (⟨(rd_T35 y254 (wrap64 ((wrap64 ((x5_2.length : Int) - 1)) + 1))).f0, wrap64 (((rd_T35 y254 (wrap64 ((wrap64 ((x5_2.length : Int) - 1)) + 1))).f1) + 1), (rd_T35 y254 (wrap64 ((wrap64 ((x5_2.length : Int) - 1)) + 1))).f2, (rd_T35 y254 (wrap64 ((wrap64 ((x5_2.length : Int) - 1)) + 1))).f3⟩ : S35)) x6_1 (wrap64 (x7_2 + 1)) x8_2 (wrap64 (x9_2 + 1))) else (none)) else (none)) else (if 0 ≤ (wrap64 ((wrap64 ((x5_2.length : Int) - 1)) + 1)) then (if (wrap64 ((wrap64 ((x5_2.length : Int) - 1)) + 1)) < (y254.length : Int) then (redlineref11_Changes.l1 kj14 l0 (y254.set ((wrap64 ((wrap64 ((x5_2.length : Int) - 1)) + 1)) : Int).toNat (⟨(rd_T35 y254 (wrap64 ((wrap64 ((x5_2.length : Int) - 1)) + 1))).f0, (rd_T35 y254 (wrap64 ((wrap64 ((x5_2.length : Int) - 1)) + 1))).f1, (rd_T35 y254 (wrap64 ((wrap64 ((x5_2.length : Int) - 1)) + 1))).f2, wrap64 (((rd_T35 y254 (wrap64 ((wrap64 ((x5_2.length : Int) - 1)) + 1))).f3) + 1)⟩ : S35)) x6_1 x7_2 (wrap64 (x8_2 + 1)) (wrap64 (x9_2 + 1))) else (none)) else (none))) = some (r1, r2) := by first | (rw [hy254]; with_reducible exact H) | (have H2_ := (Option.bind_some _ _).symm.trans H; rw [hy254]; with_reducible exact H2_) | (have H2_ := (Option.bind_some _ _).symm.trans H; with_reducible exact H2_) | with_reducible exact H | (rw [hy254]; exact H) | exact H
                  have Ny254 := Aside0.mk hy254
                  clear hy254
                  by_cases c24 : ((rd_T46 ((rd_T39 l0 x6_1).f4) x9_2).f0) = 45
                  ·rw [if_pos c24] at H
                   have c24b0 : (((rd_T46 ((rd_T39 l0 x6_1).f4) x9_2).f0) == 45) = true := beq_iff_eq.mpr c24
                   have c24b1 : (((rd_T46 ((rd_T39 l0 x6_1).f4) x9_2).f0) != 45) = false := bne_eq_false_iff_eq.mpr c24
                   clear c24
                   obtain ⟨ji25, hji25⟩ : ∃ j_ : Int, (wrap64 ((wrap64 ((x5_2.length : Int) - 1)) + 1)) = j_ := ⟨_, rfl⟩
                   replace H : (if 0 ≤ (ji25) then (if (ji25) < (y254.length : Int) then (redlineref11_Changes.l1 kj14 l0 (y254.set ((ji25) : Int).toNat (⟨(rd_T35 y254 (ji25)).f0, wrap64 (((rd_T35 y254 (ji25)).f1) + 1), (rd_T35 y254 (ji25)).f2, (rd_T35 y254 (ji25)).f3⟩ : S35)) x6_1 (wrap64 (x7_2 + 1)) x8_2 (wrap64 (x9_2 + 1))) else (none)) else (none)) = some (r1, r2) := by first | (rw [hji25] at H; exact H) | (simp only [hji25] at H ⊢; exact H)
                   have hji25w : (IntKind.i64.wrap ((wrap64 ((x5_2.length : Int) - 1)) + 1)) = ji25 := (i64_w _).trans hji25
                   by_cases c26 : 0 ≤ (ji25)
                   ·rw [if_pos c26] at H
                    have c26b0 : decide (0 ≤ (ji25)) = true := decide_eq_true c26
                    clear c26
                    by_cases c27 : (ji25) < (y254.length : Int)
                    ·rw [if_pos c27] at H
                     have c27b0 : decide ((ji25) < (y254.length : Int)) = true := decide_eq_true c27
                     clear c27
                     obtain ⟨y258, hy258⟩ : ∃ y_ : List (S35), y_ = (y254.set ((ji25) : Int).toNat (⟨(rd_T35 y254 (ji25)).f0, wrap64 (((rd_T35 y254 (ji25)).f1) + 1), (rd_T35 y254 (ji25)).f2, (rd_T35 y254 (ji25)).f3⟩ : S35)) := ⟨_, rfl⟩
                     replace H : (redlineref11_Changes.l1 kj14 l0 y258 x6_1 (wrap64 (x7_2 + 1)) x8_2 (wrap64 (x9_2 + 1))) = some (r1, r2) := by first | (rw [hy258]; with_reducible exact H) | (have H2_ := (Option.bind_some _ _).symm.trans H; rw [hy258]; with_reducible exact H2_) | (have H2_ := (Option.bind_some _ _).symm.trans H; with_reducible exact H2_) | with_reducible exact H | (rw [hy258]; exact H) | exact H
                     have Ny258 := Aside0.mk hy258
                     clear hy258
                     have H' := Aside0.mk H
                     clear H
                     go_wp2_with (first | ((with_reducible refine gate_builtin (b := .append) (xs := #[.tmp 91, .tmp 95]) rfl ?_); at_builtin; refine Kd.R_append k35 (w0 := w) w.heap.size rfl (.tmp 91) (.tmp 95) 22 35 (.agg #[(.int .i64 0), (.int .i64 0), (.int .i64 0), (.int .i64 0)]) 32 rfl Try.underlying22 info35 rfl (by decide) (by omega) (.slice Ao16 x5_2.length co16) x5_2 (⟨x7_2, 0, x8_2, 0⟩ : S35) [.int .i64 x7_2, .int .i64 0, .int .i64 x8_2, .int .i64 0] (fun _ => True) (fun _ => False) rfl rfl ?aP (fun _ hk => hk.elim) ?aF ?aO ?aB ?aS ?aL ?_; (case aP => exact k35_mkM _ _ _ (⟨x7_2, 0, x8_2, 0⟩ : S35)); (case aB => exact (by repeat (first | (with_reducible first | exact HB.out | apply below_alloc | apply pw_below_drewN | apply below_drew1) | exact HB.out))); (case aF => exact (fun _ _ => trivial)); (case aO => exact (by (with_reducible repeat (first | apply Kd.R_alloc | apply Kd.R_drewN | apply Kd.R_drew)); exact HO_5.out)); (case aS => exact (below_size (by repeat (first | (with_reducible first | exact HB.out | apply below_alloc | apply pw_below_drewN | apply below_drew1) | exact HB.out)))); (case aL => have := LMc23.out; omega); intro v255 w29 ho hb hg hat; rw [← Ny254.out] at ho; have n0_ := Aside0.mk (hb); have n1_ := Aside0.mk (ho); clear HB; clear HO_5; have HB := n0_; have HO256 := n1_; clear n0_ n1_; clear ho hb hg hat; obtain ⟨Ao30, co30, eo30⟩ := Kd.R_slice HO256.out; subst eo30; have p257 : 0 ≤ ((ji25) : Int) := of_decide_eq_true (by first | (with_reducible assumption) | assumption); have q257 : (ji25) < (y254.length : Int) := of_decide_eq_true (by first | (with_reducible assumption) | assumption); obtain ⟨ad257, e257, hx257_0, hx257_1, hx257_2, hx257_3⟩ := at_T35 (Kd.R_reads' HO256.out).2.2 (ji25) p257 q257; cases e257; replace p257 := eq_true p257; replace q257 := eq_true q257; have p28 : 0 ≤ ((ji25) : Int) := of_decide_eq_true (by first | (with_reducible assumption) | assumption); have q28 : ((ji25) : Int) < ((y254.length : Int) : Int) := of_decide_eq_true (by first | (with_reducible assumption) | assumption); obtain ⟨go28, co28, eo28, gb28, gl28, cl28, HG28⟩ := Kd.R_form HO256.out (by omega); (first | cases eo28 | (injection eo28 with ea_ en_ ec_; (first | subst ea_ | (injection ea_ with ea_; subst ea_)); subst ec_; clear en_)); have GB28 := Aside0.mk gb28; have GG28 := Aside0.mk HG28; clear gb28 gl28 HG28; (first | simp only [add_plain] at hx257_0 | skip); (first | simp only [add_plain] at hx257_1 | skip); (first | simp only [add_plain] at hx257_2 | skip); (first | simp only [add_plain] at hx257_3 | skip); obtain ⟨ce28, hcl28, hM28, hcc28, hfr28⟩ := Kd.R_elem HO256.out z35 ((ji25) : Int) p28 q28; obtain rfl := k35_openM hM28; have hx28_0 : w29.cell? ⟨go28, ((ji25) : Int).toNat * 4, none⟩ = some (.int .i64 ((rd_T35 y254 (ji25)).f0)) := hcc28 0 _ rfl; have hx28_1 : w29.cell? ⟨go28, ((ji25) : Int).toNat * 4 + 1, none⟩ = some (.int .i64 ((rd_T35 y254 (ji25)).f1)) := hcc28 1 _ rfl; have hx28_2 : w29.cell? ⟨go28, ((ji25) : Int).toNat * 4 + 2, none⟩ = some (.int .i64 ((rd_T35 y254 (ji25)).f2)) := hcc28 2 _ rfl; have hx28_3 : w29.cell? ⟨go28, ((ji25) : Int).toNat * 4 + 3, none⟩ = some (.int .i64 ((rd_T35 y254 (ji25)).f3)) := hcc28 3 _ rfl; have hf28_0 : w29.frozen? ⟨go28, ((ji25) : Int).toNat * 4, none⟩ = false := hfr28 0; have hf28_1 : w29.frozen? ⟨go28, ((ji25) : Int).toNat * 4 + 1, none⟩ = false := hfr28 1; have hf28_2 : w29.frozen? ⟨go28, ((ji25) : Int).toNat * 4 + 2, none⟩ = false := hfr28 2; have hf28_3 : w29.frozen? ⟨go28, ((ji25) : Int).toNat * 4 + 3, none⟩ = false := hfr28 3; (try clear hcl28); (try clear hcc28); (try clear hfr28); (try clear hM28); replace p28 := eq_true p28; replace q28 := eq_true q28; have HX31 := Aside0.mk (show Kd.R k35 35 w29 w.heap.size (fun _ => True) (.slice (some ⟨go28, 0, none⟩) y254.length co30) y254 from (by (with_reducible repeat (first | apply Kd.R_alloc | apply Kd.R_drewN | apply Kd.R_drew)); exact HO256.out)); obtain ⟨ce31, hcl31, hM31, hcc31, hfr31⟩ := Kd.R_elem HX31.out z35 ((ji25) : Int) (of_decide_eq_true (by first | (with_reducible assumption) | assumption)) (by have h_ : ((ji25) : Int) < ((y254.length : Int) : Int) := of_decide_eq_true (by first | (with_reducible assumption) | assumption); first | exact h_ | (have e_ := (Kd.R_reads' HO256.out).1; omega) | simpa using h_); obtain rfl := k35_openM hM31; have HP31 := Kd.R_seg HX31.out ((ji25) : Int) (of_decide_eq_true (by first | (with_reducible assumption) | assumption)) (by have h_ : ((ji25) : Int) < ((y254.length : Int) : Int) := of_decide_eq_true (by first | (with_reducible assumption) | assumption); first | exact h_ | (have e_ := (Kd.R_reads' HO256.out).1; omega) | simpa using h_) (seg := [.int .i64 (wrap64 (((rd_T35 y254 (ji25)).f1) + 1))]) (j := 1) hcl31 hcc31 (show 2 ≤ 4 from by decide) (x' := (⟨(rd_T35 y254 (ji25)).f0, wrap64 (((rd_T35 y254 (ji25)).f1) + 1), (rd_T35 y254 (ji25)).f2, (rd_T35 y254 (ji25)).f3⟩ : S35)) (k35_mkM _ _ _ (⟨(rd_T35 y254 (ji25)).f0, wrap64 (((rd_T35 y254 (ji25)).f1) + 1), (rd_T35 y254 (ji25)).f2, (rd_T35 y254 (ji25)).f3⟩ : S35) ) (fun _ hk => hk); have hx31_1 := hcc31 1 _ rfl; (try simp only [show (k35).sz = 4 from rfl, Nat.mul_one, Nat.add_zero] at hx31_1); have hf31_1 := hfr31 1; (try simp only [show (k35).sz = 4 from rfl, Nat.mul_one, Nat.add_zero] at hf31_1); (try clear hcl31); (try clear hcc31); (try clear hfr31); (try clear hM31)) | ((with_reducible refine gate_store (t := 3) (p := 108) rfl ?_); (try (rw [drewN_self w29]; generalize hq_ : World.drewN w29 _ = w29; have n0_ := Aside0.mk (Kd.R_at hq_ HO256.out); have n1_ := Aside0.mk (below_at hq_ HB.out); clear hq_ HO256 HB; have HO256 := n0_; have HB := n1_; clear n0_ n1_; (try (have HX31 := Aside0.mk (show Kd.R k35 35 w29 w.heap.size (fun _ => True) (.slice (some ⟨go28, 0, none⟩) y254.length co30) y254 from (by (with_reducible repeat (first | apply Kd.R_alloc | apply Kd.R_drewN | apply Kd.R_drew)); exact HO256.out)))); (try (obtain ⟨ce31, hcl31, hM31, hcc31, hfr31⟩ := Kd.R_elem HX31.out z35 ((ji25) : Int) (of_decide_eq_true (by first | (with_reducible assumption) | assumption)) (by have h_ : ((ji25) : Int) < ((y254.length : Int) : Int) := of_decide_eq_true (by first | (with_reducible assumption) | assumption); first | exact h_ | (have e_ := (Kd.R_reads' HO256.out).1; omega) | simpa using h_))); (try (obtain rfl := k35_openM hM31)); (try (have HP31 := Kd.R_seg HX31.out ((ji25) : Int) (of_decide_eq_true (by first | (with_reducible assumption) | assumption)) (by have h_ : ((ji25) : Int) < ((y254.length : Int) : Int) := of_decide_eq_true (by first | (with_reducible assumption) | assumption); first | exact h_ | (have e_ := (Kd.R_reads' HO256.out).1; omega) | simpa using h_) (seg := [.int .i64 (wrap64 (((rd_T35 y254 (ji25)).f1) + 1))]) (j := 1) hcl31 hcc31 (show 2 ≤ 4 from by decide) (x' := (⟨(rd_T35 y254 (ji25)).f0, wrap64 (((rd_T35 y254 (ji25)).f1) + 1), (rd_T35 y254 (ji25)).f2, (rd_T35 y254 (ji25)).f3⟩ : S35)) (k35_mkM _ _ _ (⟨(rd_T35 y254 (ji25)).f0, wrap64 (((rd_T35 y254 (ji25)).f1) + 1), (rd_T35 y254 (ji25)).f2, (rd_T35 y254 (ji25)).f3⟩ : S35) ) (fun _ hk => hk))); (try (have hx31_1 := hcc31 1 _ rfl)); (try (try simp only [show (k35).sz = 4 from rfl, Nat.mul_one, Nat.add_zero] at hx31_1)); (try (have hf31_1 := hfr31 1)); (try (try simp only [show (k35).sz = 4 from rfl, Nat.mul_one, Nat.add_zero] at hf31_1)); (try (try clear hcl31); (try clear hcc31); (try clear hfr31); (try clear hM31)))); refine store_event (t := 3) (p := 108) (v := ?vo_w32) (w1 := (w29.setCell ⟨go28, ((ji25) : Int).toNat * 4 + 1, none⟩ (.int .i64 (wrap64 (((rd_T35 y254 (ji25)).f1) + 1))))) ?hg ?ho ?hn ?hr ?_; (case ho => rfl); (case hg => rfl); (case hn => rfl); (case hr => first | (go_simp; done) | (go_simp; rfl)); intro w32 hw; have hg : w29.grownBy w32 (some go28) := (by rw [hw]; exact HP31.2); have hp_ : Kd.R k35 35 w32 w.heap.size (fun _ => True) (.slice (some ⟨go28, 0, none⟩) y254.length co30) y258 := (by rw [hw, Ny258.out]; exact HP31.1); clear HP31; have n0_ := Aside0.mk (hp_); have n1_ := Aside0.mk ((by rw [hw]; exact below_set (HB.out) GB28.out : Below w.heap.size w w32)); clear HO256; clear HB; have HO256 := n0_; have HB := n1_; clear n0_ n1_; clear hg hw hp_))
                     repeat (go_quiet (first | ((with_reducible refine gate_builtin (b := .append) (xs := #[.tmp 91, .tmp 95]) rfl ?_); at_builtin; refine Kd.R_append k35 (w0 := w) w.heap.size rfl (.tmp 91) (.tmp 95) 22 35 (.agg #[(.int .i64 0), (.int .i64 0), (.int .i64 0), (.int .i64 0)]) 32 rfl Try.underlying22 info35 rfl (by decide) (by omega) (.slice Ao16 x5_2.length co16) x5_2 (⟨x7_2, 0, x8_2, 0⟩ : S35) [.int .i64 x7_2, .int .i64 0, .int .i64 x8_2, .int .i64 0] (fun _ => True) (fun _ => False) rfl rfl ?aP (fun _ hk => hk.elim) ?aF ?aO ?aB ?aS ?aL ?_; (case aP => exact k35_mkM _ _ _ (⟨x7_2, 0, x8_2, 0⟩ : S35)); (case aB => exact (by repeat (first | (with_reducible first | exact HB.out | apply below_alloc | apply pw_below_drewN | apply below_drew1) | exact HB.out))); (case aF => exact (fun _ _ => trivial)); (case aO => exact (by (with_reducible repeat (first | apply Kd.R_alloc | apply Kd.R_drewN | apply Kd.R_drew)); exact HO_5.out)); (case aS => exact (below_size (by repeat (first | (with_reducible first | exact HB.out | apply below_alloc | apply pw_below_drewN | apply below_drew1) | exact HB.out)))); (case aL => have := LMc23.out; omega); intro v255 w29 ho hb hg hat; rw [← Ny254.out] at ho; have n0_ := Aside0.mk (hb); have n1_ := Aside0.mk (ho); clear HB; clear HO_5; have HB := n0_; have HO256 := n1_; clear n0_ n1_; clear ho hb hg hat; obtain ⟨Ao30, co30, eo30⟩ := Kd.R_slice HO256.out; subst eo30; have p257 : 0 ≤ ((ji25) : Int) := of_decide_eq_true (by first | (with_reducible assumption) | assumption); have q257 : (ji25) < (y254.length : Int) := of_decide_eq_true (by first | (with_reducible assumption) | assumption); obtain ⟨ad257, e257, hx257_0, hx257_1, hx257_2, hx257_3⟩ := at_T35 (Kd.R_reads' HO256.out).2.2 (ji25) p257 q257; cases e257; replace p257 := eq_true p257; replace q257 := eq_true q257; have p28 : 0 ≤ ((ji25) : Int) := of_decide_eq_true (by first | (with_reducible assumption) | assumption); have q28 : ((ji25) : Int) < ((y254.length : Int) : Int) := of_decide_eq_true (by first | (with_reducible assumption) | assumption); obtain ⟨go28, co28, eo28, gb28, gl28, cl28, HG28⟩ := Kd.R_form HO256.out (by omega); (first | cases eo28 | (injection eo28 with ea_ en_ ec_; (first | subst ea_ | (injection ea_ with ea_; subst ea_)); subst ec_; clear en_)); have GB28 := Aside0.mk gb28; have GG28 := Aside0.mk HG28; clear gb28 gl28 HG28; (first | simp only [add_plain] at hx257_0 | skip); (first | simp only [add_plain] at hx257_1 | skip); (first | simp only [add_plain] at hx257_2 | skip); (first | simp only [add_plain] at hx257_3 | skip); obtain ⟨ce28, hcl28, hM28, hcc28, hfr28⟩ := Kd.R_elem HO256.out z35 ((ji25) : Int) p28 q28; obtain rfl := k35_openM hM28; have hx28_0 : w29.cell? ⟨go28, ((ji25) : Int).toNat * 4, none⟩ = some (.int .i64 ((rd_T35 y254 (ji25)).f0)) := hcc28 0 _ rfl; have hx28_1 : w29.cell? ⟨go28, ((ji25) : Int).toNat * 4 + 1, none⟩ = some (.int .i64 ((rd_T35 y254 (ji25)).f1)) := hcc28 1 _ rfl; have hx28_2 : w29.cell? ⟨go28, ((ji25) : Int).toNat * 4 + 2, none⟩ = some (.int .i64 ((rd_T35 y254 (ji25)).f2)) := hcc28 2 _ rfl; have hx28_3 : w29.cell? ⟨go28, ((ji25) : Int).toNat * 4 + 3, none⟩ = some (.int .i64 ((rd_T35 y254 (ji25)).f3)) := hcc28 3 _ rfl; have hf28_0 : w29.frozen? ⟨go28, ((ji25) : Int).toNat * 4, none⟩ = false := hfr28 0; have hf28_1 : w29.frozen? ⟨go28, ((ji25) : Int).toNat * 4 + 1, none⟩ = false := hfr28 1; have hf28_2 : w29.frozen? ⟨go28, ((ji25) : Int).toNat * 4 + 2, none⟩ = false := hfr28 2; have hf28_3 : w29.frozen? ⟨go28, ((ji25) : Int).toNat * 4 + 3, none⟩ = false := hfr28 3; (try clear hcl28); (try clear hcc28); (try clear hfr28); (try clear hM28); replace p28 := eq_true p28; replace q28 := eq_true q28; have HX31 := Aside0.mk (show Kd.R k35 35 w29 w.heap.size (fun _ => True) (.slice (some ⟨go28, 0, none⟩) y254.length co30) y254 from (by (with_reducible repeat (first | apply Kd.R_alloc | apply Kd.R_drewN | apply Kd.R_drew)); exact HO256.out)); obtain ⟨ce31, hcl31, hM31, hcc31, hfr31⟩ := Kd.R_elem HX31.out z35 ((ji25) : Int) (of_decide_eq_true (by first | (with_reducible assumption) | assumption)) (by have h_ : ((ji25) : Int) < ((y254.length : Int) : Int) := of_decide_eq_true (by first | (with_reducible assumption) | assumption); first | exact h_ | (have e_ := (Kd.R_reads' HO256.out).1; omega) | simpa using h_); obtain rfl := k35_openM hM31; have HP31 := Kd.R_seg HX31.out ((ji25) : Int) (of_decide_eq_true (by first | (with_reducible assumption) | assumption)) (by have h_ : ((ji25) : Int) < ((y254.length : Int) : Int) := of_decide_eq_true (by first | (with_reducible assumption) | assumption); first | exact h_ | (have e_ := (Kd.R_reads' HO256.out).1; omega) | simpa using h_) (seg := [.int .i64 (wrap64 (((rd_T35 y254 (ji25)).f1) + 1))]) (j := 1) hcl31 hcc31 (show 2 ≤ 4 from by decide) (x' := (⟨(rd_T35 y254 (ji25)).f0, wrap64 (((rd_T35 y254 (ji25)).f1) + 1), (rd_T35 y254 (ji25)).f2, (rd_T35 y254 (ji25)).f3⟩ : S35)) (k35_mkM _ _ _ (⟨(rd_T35 y254 (ji25)).f0, wrap64 (((rd_T35 y254 (ji25)).f1) + 1), (rd_T35 y254 (ji25)).f2, (rd_T35 y254 (ji25)).f3⟩ : S35) ) (fun _ hk => hk); have hx31_1 := hcc31 1 _ rfl; (try simp only [show (k35).sz = 4 from rfl, Nat.mul_one, Nat.add_zero] at hx31_1); have hf31_1 := hfr31 1; (try simp only [show (k35).sz = 4 from rfl, Nat.mul_one, Nat.add_zero] at hf31_1); (try clear hcl31); (try clear hcc31); (try clear hfr31); (try clear hM31)) | ((with_reducible refine gate_store (t := 3) (p := 108) rfl ?_); (try (rw [drewN_self w29]; generalize hq_ : World.drewN w29 _ = w29; have n0_ := Aside0.mk (Kd.R_at hq_ HO256.out); have n1_ := Aside0.mk (below_at hq_ HB.out); clear hq_ HO256 HB; have HO256 := n0_; have HB := n1_; clear n0_ n1_; (try (have HX31 := Aside0.mk (show Kd.R k35 35 w29 w.heap.size (fun _ => True) (.slice (some ⟨go28, 0, none⟩) y254.length co30) y254 from (by (with_reducible repeat (first | apply Kd.R_alloc | apply Kd.R_drewN | apply Kd.R_drew)); exact HO256.out)))); (try (obtain ⟨ce31, hcl31, hM31, hcc31, hfr31⟩ := Kd.R_elem HX31.out z35 ((ji25) : Int) (of_decide_eq_true (by first | (with_reducible assumption) | assumption)) (by have h_ : ((ji25) : Int) < ((y254.length : Int) : Int) := of_decide_eq_true (by first | (with_reducible assumption) | assumption); first | exact h_ | (have e_ := (Kd.R_reads' HO256.out).1; omega) | simpa using h_))); (try (obtain rfl := k35_openM hM31)); (try (have HP31 := Kd.R_seg HX31.out ((ji25) : Int) (of_decide_eq_true (by first | (with_reducible assumption) | assumption)) (by have h_ : ((ji25) : Int) < ((y254.length : Int) : Int) := of_decide_eq_true (by first | (with_reducible assumption) | assumption); first | exact h_ | (have e_ := (Kd.R_reads' HO256.out).1; omega) | simpa using h_) (seg := [.int .i64 (wrap64 (((rd_T35 y254 (ji25)).f1) + 1))]) (j := 1) hcl31 hcc31 (show 2 ≤ 4 from by decide) (x' := (⟨(rd_T35 y254 (ji25)).f0, wrap64 (((rd_T35 y254 (ji25)).f1) + 1), (rd_T35 y254 (ji25)).f2, (rd_T35 y254 (ji25)).f3⟩ : S35)) (k35_mkM _ _ _ (⟨(rd_T35 y254 (ji25)).f0, wrap64 (((rd_T35 y254 (ji25)).f1) + 1), (rd_T35 y254 (ji25)).f2, (rd_T35 y254 (ji25)).f3⟩ : S35) ) (fun _ hk => hk))); (try (have hx31_1 := hcc31 1 _ rfl)); (try (try simp only [show (k35).sz = 4 from rfl, Nat.mul_one, Nat.add_zero] at hx31_1)); (try (have hf31_1 := hfr31 1)); (try (try simp only [show (k35).sz = 4 from rfl, Nat.mul_one, Nat.add_zero] at hf31_1)); (try (try clear hcl31); (try clear hcc31); (try clear hfr31); (try clear hM31)))); refine store_event (t := 3) (p := 108) (v := ?vo_w32) (w1 := (w29.setCell ⟨go28, ((ji25) : Int).toNat * 4 + 1, none⟩ (.int .i64 (wrap64 (((rd_T35 y254 (ji25)).f1) + 1))))) ?hg ?ho ?hn ?hr ?_; (case ho => rfl); (case hg => rfl); (case hn => rfl); (case hr => first | (go_simp; done) | (go_simp; rfl)); intro w32 hw; have hg : w29.grownBy w32 (some go28) := (by rw [hw]; exact HP31.2); have hp_ : Kd.R k35 35 w32 w.heap.size (fun _ => True) (.slice (some ⟨go28, 0, none⟩) y254.length co30) y258 := (by rw [hw, Ny258.out]; exact HP31.1); clear HP31; have n0_ := Aside0.mk (hp_); have n1_ := Aside0.mk ((by rw [hw]; exact below_set (HB.out) GB28.out : Below w.heap.size w w32)); clear HO256; clear HB; have HO256 := n0_; have HB := n1_; clear n0_ n1_; clear hg hw hp_)); try go_wp2_with (first | ((with_reducible refine gate_builtin (b := .append) (xs := #[.tmp 91, .tmp 95]) rfl ?_); at_builtin; refine Kd.R_append k35 (w0 := w) w.heap.size rfl (.tmp 91) (.tmp 95) 22 35 (.agg #[(.int .i64 0), (.int .i64 0), (.int .i64 0), (.int .i64 0)]) 32 rfl Try.underlying22 info35 rfl (by decide) (by omega) (.slice Ao16 x5_2.length co16) x5_2 (⟨x7_2, 0, x8_2, 0⟩ : S35) [.int .i64 x7_2, .int .i64 0, .int .i64 x8_2, .int .i64 0] (fun _ => True) (fun _ => False) rfl rfl ?aP (fun _ hk => hk.elim) ?aF ?aO ?aB ?aS ?aL ?_; (case aP => exact k35_mkM _ _ _ (⟨x7_2, 0, x8_2, 0⟩ : S35)); (case aB => exact (by repeat (first | (with_reducible first | exact HB.out | apply below_alloc | apply pw_below_drewN | apply below_drew1) | exact HB.out))); (case aF => exact (fun _ _ => trivial)); (case aO => exact (by (with_reducible repeat (first | apply Kd.R_alloc | apply Kd.R_drewN | apply Kd.R_drew)); exact HO_5.out)); (case aS => exact (below_size (by repeat (first | (with_reducible first | exact HB.out | apply below_alloc | apply pw_below_drewN | apply below_drew1) | exact HB.out)))); (case aL => have := LMc23.out; omega); intro v255 w29 ho hb hg hat; rw [← Ny254.out] at ho; have n0_ := Aside0.mk (hb); have n1_ := Aside0.mk (ho); clear HB; clear HO_5; have HB := n0_; have HO256 := n1_; clear n0_ n1_; clear ho hb hg hat; obtain ⟨Ao30, co30, eo30⟩ := Kd.R_slice HO256.out; subst eo30; have p257 : 0 ≤ ((ji25) : Int) := of_decide_eq_true (by first | (with_reducible assumption) | assumption); have q257 : (ji25) < (y254.length : Int) := of_decide_eq_true (by first | (with_reducible assumption) | assumption); obtain ⟨ad257, e257, hx257_0, hx257_1, hx257_2, hx257_3⟩ := at_T35 (Kd.R_reads' HO256.out).2.2 (ji25) p257 q257; cases e257; replace p257 := eq_true p257; replace q257 := eq_true q257; have p28 : 0 ≤ ((ji25) : Int) := of_decide_eq_true (by first | (with_reducible assumption) | assumption); have q28 : ((ji25) : Int) < ((y254.length : Int) : Int) := of_decide_eq_true (by first | (with_reducible assumption) | assumption); obtain ⟨go28, co28, eo28, gb28, gl28, cl28, HG28⟩ := Kd.R_form HO256.out (by omega); (first | cases eo28 | (injection eo28 with ea_ en_ ec_; (first | subst ea_ | (injection ea_ with ea_; subst ea_)); subst ec_; clear en_)); have GB28 := Aside0.mk gb28; have GG28 := Aside0.mk HG28; clear gb28 gl28 HG28; (first | simp only [add_plain] at hx257_0 | skip); (first | simp only [add_plain] at hx257_1 | skip); (first | simp only [add_plain] at hx257_2 | skip); (first | simp only [add_plain] at hx257_3 | skip); obtain ⟨ce28, hcl28, hM28, hcc28, hfr28⟩ := Kd.R_elem HO256.out z35 ((ji25) : Int) p28 q28; obtain rfl := k35_openM hM28; have hx28_0 : w29.cell? ⟨go28, ((ji25) : Int).toNat * 4, none⟩ = some (.int .i64 ((rd_T35 y254 (ji25)).f0)) := hcc28 0 _ rfl; have hx28_1 : w29.cell? ⟨go28, ((ji25) : Int).toNat * 4 + 1, none⟩ = some (.int .i64 ((rd_T35 y254 (ji25)).f1)) := hcc28 1 _ rfl; have hx28_2 : w29.cell? ⟨go28, ((ji25) : Int).toNat * 4 + 2, none⟩ = some (.int .i64 ((rd_T35 y254 (ji25)).f2)) := hcc28 2 _ rfl; have hx28_3 : w29.cell? ⟨go28, ((ji25) : Int).toNat * 4 + 3, none⟩ = some (.int .i64 ((rd_T35 y254 (ji25)).f3)) := hcc28 3 _ rfl; have hf28_0 : w29.frozen? ⟨go28, ((ji25) : Int).toNat * 4, none⟩ = false := hfr28 0; have hf28_1 : w29.frozen? ⟨go28, ((ji25) : Int).toNat * 4 + 1, none⟩ = false := hfr28 1; have hf28_2 : w29.frozen? ⟨go28, ((ji25) : Int).toNat * 4 + 2, none⟩ = false := hfr28 2; have hf28_3 : w29.frozen? ⟨go28, ((ji25) : Int).toNat * 4 + 3, none⟩ = false := hfr28 3; (try clear hcl28); (try clear hcc28); (try clear hfr28); (try clear hM28); replace p28 := eq_true p28; replace q28 := eq_true q28; have HX31 := Aside0.mk (show Kd.R k35 35 w29 w.heap.size (fun _ => True) (.slice (some ⟨go28, 0, none⟩) y254.length co30) y254 from (by (with_reducible repeat (first | apply Kd.R_alloc | apply Kd.R_drewN | apply Kd.R_drew)); exact HO256.out)); obtain ⟨ce31, hcl31, hM31, hcc31, hfr31⟩ := Kd.R_elem HX31.out z35 ((ji25) : Int) (of_decide_eq_true (by first | (with_reducible assumption) | assumption)) (by have h_ : ((ji25) : Int) < ((y254.length : Int) : Int) := of_decide_eq_true (by first | (with_reducible assumption) | assumption); first | exact h_ | (have e_ := (Kd.R_reads' HO256.out).1; omega) | simpa using h_); obtain rfl := k35_openM hM31; have HP31 := Kd.R_seg HX31.out ((ji25) : Int) (of_decide_eq_true (by first | (with_reducible assumption) | assumption)) (by have h_ : ((ji25) : Int) < ((y254.length : Int) : Int) := of_decide_eq_true (by first | (with_reducible assumption) | assumption); first | exact h_ | (have e_ := (Kd.R_reads' HO256.out).1; omega) | simpa using h_) (seg := [.int .i64 (wrap64 (((rd_T35 y254 (ji25)).f1) + 1))]) (j := 1) hcl31 hcc31 (show 2 ≤ 4 from by decide) (x' := (⟨(rd_T35 y254 (ji25)).f0, wrap64 (((rd_T35 y254 (ji25)).f1) + 1), (rd_T35 y254 (ji25)).f2, (rd_T35 y254 (ji25)).f3⟩ : S35)) (k35_mkM _ _ _ (⟨(rd_T35 y254 (ji25)).f0, wrap64 (((rd_T35 y254 (ji25)).f1) + 1), (rd_T35 y254 (ji25)).f2, (rd_T35 y254 (ji25)).f3⟩ : S35) ) (fun _ hk => hk); have hx31_1 := hcc31 1 _ rfl; (try simp only [show (k35).sz = 4 from rfl, Nat.mul_one, Nat.add_zero] at hx31_1); have hf31_1 := hfr31 1; (try simp only [show (k35).sz = 4 from rfl, Nat.mul_one, Nat.add_zero] at hf31_1); (try clear hcl31); (try clear hcc31); (try clear hfr31); (try clear hM31)) | ((with_reducible refine gate_store (t := 3) (p := 108) rfl ?_); (try (rw [drewN_self w29]; generalize hq_ : World.drewN w29 _ = w29; have n0_ := Aside0.mk (Kd.R_at hq_ HO256.out); have n1_ := Aside0.mk (below_at hq_ HB.out); clear hq_ HO256 HB; have HO256 := n0_; have HB := n1_; clear n0_ n1_; (try (have HX31 := Aside0.mk (show Kd.R k35 35 w29 w.heap.size (fun _ => True) (.slice (some ⟨go28, 0, none⟩) y254.length co30) y254 from (by (with_reducible repeat (first | apply Kd.R_alloc | apply Kd.R_drewN | apply Kd.R_drew)); exact HO256.out)))); (try (obtain ⟨ce31, hcl31, hM31, hcc31, hfr31⟩ := Kd.R_elem HX31.out z35 ((ji25) : Int) (of_decide_eq_true (by first | (with_reducible assumption) | assumption)) (by have h_ : ((ji25) : Int) < ((y254.length : Int) : Int) := of_decide_eq_true (by first | (with_reducible assumption) | assumption); first | exact h_ | (have e_ := (Kd.R_reads' HO256.out).1; omega) | simpa using h_))); (try (obtain rfl := k35_openM hM31)); (try (have HP31 := Kd.R_seg HX31.out ((ji25) : Int) (of_decide_eq_true (by first | (with_reducible assumption) | assumption)) (by have h_ : ((ji25) : Int) < ((y254.length : Int) : Int) := of_decide_eq_true (by first | (with_reducible assumption) | assumption); first | exact h_ | (have e_ := (Kd.R_reads' HO256.out).1; omega) | simpa using h_) (seg := [.int .i64 (wrap64 (((rd_T35 y254 (ji25)).f1) + 1))]) (j := 1) hcl31 hcc31 (show 2 ≤ 4 from by decide) (x' := (⟨(rd_T35 y254 (ji25)).f0, wrap64 (((rd_T35 y254 (ji25)).f1) + 1), (rd_T35 y254 (ji25)).f2, (rd_T35 y254 (ji25)).f3⟩ : S35)) (k35_mkM _ _ _ (⟨(rd_T35 y254 (ji25)).f0, wrap64 (((rd_T35 y254 (ji25)).f1) + 1), (rd_T35 y254 (ji25)).f2, (rd_T35 y254 (ji25)).f3⟩ : S35) ) (fun _ hk => hk))); (try (have hx31_1 := hcc31 1 _ rfl)); (try (try simp only [show (k35).sz = 4 from rfl, Nat.mul_one, Nat.add_zero] at hx31_1)); (try (have hf31_1 := hfr31 1)); (try (try simp only [show (k35).sz = 4 from rfl, Nat.mul_one, Nat.add_zero] at hf31_1)); (try (try clear hcl31); (try clear hcc31); (try clear hfr31); (try clear hM31)))); refine store_event (t := 3) (p := 108) (v := ?vo_w32) (w1 := (w29.setCell ⟨go28, ((ji25) : Int).toNat * 4 + 1, none⟩ (.int .i64 (wrap64 (((rd_T35 y254 (ji25)).f1) + 1))))) ?hg ?ho ?hn ?hr ?_; (case ho => rfl); (case hg => rfl); (case hn => rfl); (case hr => first | (go_simp; done) | (go_simp; rfl)); intro w32 hw; have hg : w29.grownBy w32 (some go28) := (by rw [hw]; exact HP31.2); have hp_ : Kd.R k35 35 w32 w.heap.size (fun _ => True) (.slice (some ⟨go28, 0, none⟩) y254.length co30) y258 := (by rw [hw, Ny258.out]; exact HP31.1); clear HP31; have n0_ := Aside0.mk (hp_); have n1_ := Aside0.mk ((by rw [hw]; exact below_set (HB.out) GB28.out : Below w.heap.size w w32)); clear HO256; clear HB; have HO256 := n0_; have HB := n1_; clear n0_ n1_; clear hg hw hp_)))
                     go_roundg kj14
                     case measure => have := HK1.out; have := HK2.out; have := HJ14.out; omega
                     case rel => exact ⟨(y258), (wrap64 (x7_2 + 1)), (x8_2), (wrap64 (x9_2 + 1)), (by first | rfl | (simp; done) | (simp [*]; done)), (by first | rfl | (simp; done) | (simp [*]; done)), (by first | rfl | (simp; done) | (simp [*]; done)), (by first | exact H' | (rw [hji18]; exact H')), ⟨by have := HK1.out; have := HK2.out; have := HJ14.out; omega⟩, ⟨by (with_reducible repeat (first | apply Kd.R_alloc | apply Kd.R_drewN | apply Kd.R_drew)); exact HO256.out⟩, ⟨by repeat (first | (with_reducible first | exact HB.out | apply below_alloc | apply pw_below_drewN | apply below_drew1) | exact HB.out)⟩⟩
                    ·rw [if_neg c27] at H
                     exact absurd H (by simp)
                   ·rw [if_neg c26] at H
                    exact absurd H (by simp)
                  ·rw [if_neg c24] at H
                   have c24b0 : (((rd_T46 ((rd_T39 l0 x6_1).f4) x9_2).f0) == 45) = false := beq_eq_false_iff_ne.mpr c24
                   have c24b1 : (((rd_T46 ((rd_T39 l0 x6_1).f4) x9_2).f0) != 45) = true := bne_iff_ne.mpr c24
                   obtain ⟨ji33, hji33⟩ : ∃ j_ : Int, (wrap64 ((wrap64 ((x5_2.length : Int) - 1)) + 1)) = j_ := ⟨_, rfl⟩
                   replace H : (if 0 ≤ (ji33) then (if (ji33) < (y254.length : Int) then (redlineref11_Changes.l1 kj14 l0 (y254.set ((ji33) : Int).toNat (⟨(rd_T35 y254 (ji33)).f0, (rd_T35 y254 (ji33)).f1, (rd_T35 y254 (ji33)).f2, wrap64 (((rd_T35 y254 (ji33)).f3) + 1)⟩ : S35)) x6_1 x7_2 (wrap64 (x8_2 + 1)) (wrap64 (x9_2 + 1))) else (none)) else (none)) = some (r1, r2) := by first | (rw [hji33] at H; exact H) | (simp only [hji33] at H ⊢; exact H)
                   have hji33w : (IntKind.i64.wrap ((wrap64 ((x5_2.length : Int) - 1)) + 1)) = ji33 := (i64_w _).trans hji33
                   by_cases c34 : 0 ≤ (ji33)
                   ·rw [if_pos c34] at H
                    have c34b0 : decide (0 ≤ (ji33)) = true := decide_eq_true c34
                    clear c34
                    by_cases c35 : (ji33) < (y254.length : Int)
                    ·rw [if_pos c35] at H
                     have c35b0 : decide ((ji33) < (y254.length : Int)) = true := decide_eq_true c35
                     clear c35
                     obtain ⟨y260, hy260⟩ : ∃ y_ : List (S35), y_ = (y254.set ((ji33) : Int).toNat (⟨(rd_T35 y254 (ji33)).f0, (rd_T35 y254 (ji33)).f1, (rd_T35 y254 (ji33)).f2, wrap64 (((rd_T35 y254 (ji33)).f3) + 1)⟩ : S35)) := ⟨_, rfl⟩
                     replace H : (redlineref11_Changes.l1 kj14 l0 y260 x6_1 x7_2 (wrap64 (x8_2 + 1)) (wrap64 (x9_2 + 1))) = some (r1, r2) := by first | (rw [hy260]; with_reducible exact H) | (have H2_ := (Option.bind_some _ _).symm.trans H; rw [hy260]; with_reducible exact H2_) | (have H2_ := (Option.bind_some _ _).symm.trans H; with_reducible exact H2_) | with_reducible exact H | (rw [hy260]; exact H) | exact H
                     have Ny260 := Aside0.mk hy260
                     clear hy260
                     have H' := Aside0.mk H
                     clear H
                     go_wp2_with (first | ((with_reducible refine gate_builtin (b := .append) (xs := #[.tmp 91, .tmp 95]) rfl ?_); at_builtin; refine Kd.R_append k35 (w0 := w) w.heap.size rfl (.tmp 91) (.tmp 95) 22 35 (.agg #[(.int .i64 0), (.int .i64 0), (.int .i64 0), (.int .i64 0)]) 32 rfl Try.underlying22 info35 rfl (by decide) (by omega) (.slice Ao16 x5_2.length co16) x5_2 (⟨x7_2, 0, x8_2, 0⟩ : S35) [.int .i64 x7_2, .int .i64 0, .int .i64 x8_2, .int .i64 0] (fun _ => True) (fun _ => False) rfl rfl ?aP (fun _ hk => hk.elim) ?aF ?aO ?aB ?aS ?aL ?_; (case aP => exact k35_mkM _ _ _ (⟨x7_2, 0, x8_2, 0⟩ : S35)); (case aB => exact (by repeat (first | (with_reducible first | exact HB.out | apply below_alloc | apply pw_below_drewN | apply below_drew1) | exact HB.out))); (case aF => exact (fun _ _ => trivial)); (case aO => exact (by (with_reducible repeat (first | apply Kd.R_alloc | apply Kd.R_drewN | apply Kd.R_drew)); exact HO_5.out)); (case aS => exact (below_size (by repeat (first | (with_reducible first | exact HB.out | apply below_alloc | apply pw_below_drewN | apply below_drew1) | exact HB.out)))); (case aL => have := LMc23.out; omega); intro v255 w37 ho hb hg hat; rw [← Ny254.out] at ho; have n0_ := Aside0.mk (hb); have n1_ := Aside0.mk (ho); clear HB; clear HO_5; have HB := n0_; have HO256 := n1_; clear n0_ n1_; clear ho hb hg hat; obtain ⟨Ao38, co38, eo38⟩ := Kd.R_slice HO256.out; subst eo38; have p259 : 0 ≤ ((ji33) : Int) := of_decide_eq_true (by first | (with_reducible assumption) | assumption); have q259 : (ji33) < (y254.length : Int) := of_decide_eq_true (by first | (with_reducible assumption) | assumption); obtain ⟨ad259, e259, hx259_0, hx259_1, hx259_2, hx259_3⟩ := at_T35 (Kd.R_reads' HO256.out).2.2 (ji33) p259 q259; cases e259; replace p259 := eq_true p259; replace q259 := eq_true q259; have p36 : 0 ≤ ((ji33) : Int) := of_decide_eq_true (by first | (with_reducible assumption) | assumption); have q36 : ((ji33) : Int) < ((y254.length : Int) : Int) := of_decide_eq_true (by first | (with_reducible assumption) | assumption); obtain ⟨go36, co36, eo36, gb36, gl36, cl36, HG36⟩ := Kd.R_form HO256.out (by omega); (first | cases eo36 | (injection eo36 with ea_ en_ ec_; (first | subst ea_ | (injection ea_ with ea_; subst ea_)); subst ec_; clear en_)); have GB36 := Aside0.mk gb36; have GG36 := Aside0.mk HG36; clear gb36 gl36 HG36; (first | simp only [add_plain] at hx259_0 | skip); (first | simp only [add_plain] at hx259_1 | skip); (first | simp only [add_plain] at hx259_2 | skip); (first | simp only [add_plain] at hx259_3 | skip); obtain ⟨ce36, hcl36, hM36, hcc36, hfr36⟩ := Kd.R_elem HO256.out z35 ((ji33) : Int) p36 q36; obtain rfl := k35_openM hM36; have hx36_0 : w37.cell? ⟨go36, ((ji33) : Int).toNat * 4, none⟩ = some (.int .i64 ((rd_T35 y254 (ji33)).f0)) := hcc36 0 _ rfl; have hx36_1 : w37.cell? ⟨go36, ((ji33) : Int).toNat * 4 + 1, none⟩ = some (.int .i64 ((rd_T35 y254 (ji33)).f1)) := hcc36 1 _ rfl; have hx36_2 : w37.cell? ⟨go36, ((ji33) : Int).toNat * 4 + 2, none⟩ = some (.int .i64 ((rd_T35 y254 (ji33)).f2)) := hcc36 2 _ rfl; have hx36_3 : w37.cell? ⟨go36, ((ji33) : Int).toNat * 4 + 3, none⟩ = some (.int .i64 ((rd_T35 y254 (ji33)).f3)) := hcc36 3 _ rfl; have hf36_0 : w37.frozen? ⟨go36, ((ji33) : Int).toNat * 4, none⟩ = false := hfr36 0; have hf36_1 : w37.frozen? ⟨go36, ((ji33) : Int).toNat * 4 + 1, none⟩ = false := hfr36 1; have hf36_2 : w37.frozen? ⟨go36, ((ji33) : Int).toNat * 4 + 2, none⟩ = false := hfr36 2; have hf36_3 : w37.frozen? ⟨go36, ((ji33) : Int).toNat * 4 + 3, none⟩ = false := hfr36 3; (try clear hcl36); (try clear hcc36); (try clear hfr36); (try clear hM36); replace p36 := eq_true p36; replace q36 := eq_true q36; have HX39 := Aside0.mk (show Kd.R k35 35 w37 w.heap.size (fun _ => True) (.slice (some ⟨go36, 0, none⟩) y254.length co38) y254 from (by (with_reducible repeat (first | apply Kd.R_alloc | apply Kd.R_drewN | apply Kd.R_drew)); exact HO256.out)); obtain ⟨ce39, hcl39, hM39, hcc39, hfr39⟩ := Kd.R_elem HX39.out z35 ((ji33) : Int) (of_decide_eq_true (by first | (with_reducible assumption) | assumption)) (by have h_ : ((ji33) : Int) < ((y254.length : Int) : Int) := of_decide_eq_true (by first | (with_reducible assumption) | assumption); first | exact h_ | (have e_ := (Kd.R_reads' HO256.out).1; omega) | simpa using h_); obtain rfl := k35_openM hM39; have HP39 := Kd.R_seg HX39.out ((ji33) : Int) (of_decide_eq_true (by first | (with_reducible assumption) | assumption)) (by have h_ : ((ji33) : Int) < ((y254.length : Int) : Int) := of_decide_eq_true (by first | (with_reducible assumption) | assumption); first | exact h_ | (have e_ := (Kd.R_reads' HO256.out).1; omega) | simpa using h_) (seg := [.int .i64 (wrap64 (((rd_T35 y254 (ji33)).f3) + 1))]) (j := 3) hcl39 hcc39 (show 4 ≤ 4 from by decide) (x' := (⟨(rd_T35 y254 (ji33)).f0, (rd_T35 y254 (ji33)).f1, (rd_T35 y254 (ji33)).f2, wrap64 (((rd_T35 y254 (ji33)).f3) + 1)⟩ : S35)) (k35_mkM _ _ _ (⟨(rd_T35 y254 (ji33)).f0, (rd_T35 y254 (ji33)).f1, (rd_T35 y254 (ji33)).f2, wrap64 (((rd_T35 y254 (ji33)).f3) + 1)⟩ : S35) ) (fun _ hk => hk); have hx39_3 := hcc39 3 _ rfl; (try simp only [show (k35).sz = 4 from rfl, Nat.mul_one, Nat.add_zero] at hx39_3); have hf39_3 := hfr39 3; (try simp only [show (k35).sz = 4 from rfl, Nat.mul_one, Nat.add_zero] at hf39_3); (try clear hcl39); (try clear hcc39); (try clear hfr39); (try clear hM39)) | ((with_reducible refine gate_store (t := 3) (p := 118) rfl ?_); (try (rw [drewN_self w37]; generalize hq_ : World.drewN w37 _ = w37; have n0_ := Aside0.mk (Kd.R_at hq_ HO256.out); have n1_ := Aside0.mk (below_at hq_ HB.out); clear hq_ HO256 HB; have HO256 := n0_; have HB := n1_; clear n0_ n1_; (try (have HX39 := Aside0.mk (show Kd.R k35 35 w37 w.heap.size (fun _ => True) (.slice (some ⟨go36, 0, none⟩) y254.length co38) y254 from (by (with_reducible repeat (first | apply Kd.R_alloc | apply Kd.R_drewN | apply Kd.R_drew)); exact HO256.out)))); (try (obtain ⟨ce39, hcl39, hM39, hcc39, hfr39⟩ := Kd.R_elem HX39.out z35 ((ji33) : Int) (of_decide_eq_true (by first | (with_reducible assumption) | assumption)) (by have h_ : ((ji33) : Int) < ((y254.length : Int) : Int) := of_decide_eq_true (by first | (with_reducible assumption) | assumption); first | exact h_ | (have e_ := (Kd.R_reads' HO256.out).1; omega) | simpa using h_))); (try (obtain rfl := k35_openM hM39)); (try (have HP39 := Kd.R_seg HX39.out ((ji33) : Int) (of_decide_eq_true (by first | (with_reducible assumption) | assumption)) (by have h_ : ((ji33) : Int) < ((y254.length : Int) : Int) := of_decide_eq_true (by first | (with_reducible assumption) | assumption); first | exact h_ | (have e_ := (Kd.R_reads' HO256.out).1; omega) | simpa using h_) (seg := [.int .i64 (wrap64 (((rd_T35 y254 (ji33)).f3) + 1))]) (j := 3) hcl39 hcc39 (show 4 ≤ 4 from by decide) (x' := (⟨(rd_T35 y254 (ji33)).f0, (rd_T35 y254 (ji33)).f1, (rd_T35 y254 (ji33)).f2, wrap64 (((rd_T35 y254 (ji33)).f3) + 1)⟩ : S35)) (k35_mkM _ _ _ (⟨(rd_T35 y254 (ji33)).f0, (rd_T35 y254 (ji33)).f1, (rd_T35 y254 (ji33)).f2, wrap64 (((rd_T35 y254 (ji33)).f3) + 1)⟩ : S35) ) (fun _ hk => hk))); (try (have hx39_3 := hcc39 3 _ rfl)); (try (try simp only [show (k35).sz = 4 from rfl, Nat.mul_one, Nat.add_zero] at hx39_3)); (try (have hf39_3 := hfr39 3)); (try (try simp only [show (k35).sz = 4 from rfl, Nat.mul_one, Nat.add_zero] at hf39_3)); (try (try clear hcl39); (try clear hcc39); (try clear hfr39); (try clear hM39)))); refine store_event (t := 3) (p := 118) (v := ?vo_w40) (w1 := (w37.setCell ⟨go36, ((ji33) : Int).toNat * 4 + 3, none⟩ (.int .i64 (wrap64 (((rd_T35 y254 (ji33)).f3) + 1))))) ?hg ?ho ?hn ?hr ?_; (case ho => rfl); (case hg => rfl); (case hn => rfl); (case hr => first | (go_simp; done) | (go_simp; rfl)); intro w40 hw; have hg : w37.grownBy w40 (some go36) := (by rw [hw]; exact HP39.2); have hp_ : Kd.R k35 35 w40 w.heap.size (fun _ => True) (.slice (some ⟨go36, 0, none⟩) y254.length co38) y260 := (by rw [hw, Ny260.out]; exact HP39.1); clear HP39; have n0_ := Aside0.mk (hp_); have n1_ := Aside0.mk ((by rw [hw]; exact below_set (HB.out) GB36.out : Below w.heap.size w w40)); clear HO256; clear HB; have HO256 := n0_; have HB := n1_; clear n0_ n1_; clear hg hw hp_))
                     repeat (go_quiet (first | ((with_reducible refine gate_builtin (b := .append) (xs := #[.tmp 91, .tmp 95]) rfl ?_); at_builtin; refine Kd.R_append k35 (w0 := w) w.heap.size rfl (.tmp 91) (.tmp 95) 22 35 (.agg #[(.int .i64 0), (.int .i64 0), (.int .i64 0), (.int .i64 0)]) 32 rfl Try.underlying22 info35 rfl (by decide) (by omega) (.slice Ao16 x5_2.length co16) x5_2 (⟨x7_2, 0, x8_2, 0⟩ : S35) [.int .i64 x7_2, .int .i64 0, .int .i64 x8_2, .int .i64 0] (fun _ => True) (fun _ => False) rfl rfl ?aP (fun _ hk => hk.elim) ?aF ?aO ?aB ?aS ?aL ?_; (case aP => exact k35_mkM _ _ _ (⟨x7_2, 0, x8_2, 0⟩ : S35)); (case aB => exact (by repeat (first | (with_reducible first | exact HB.out | apply below_alloc | apply pw_below_drewN | apply below_drew1) | exact HB.out))); (case aF => exact (fun _ _ => trivial)); (case aO => exact (by (with_reducible repeat (first | apply Kd.R_alloc | apply Kd.R_drewN | apply Kd.R_drew)); exact HO_5.out)); (case aS => exact (below_size (by repeat (first | (with_reducible first | exact HB.out | apply below_alloc | apply pw_below_drewN | apply below_drew1) | exact HB.out)))); (case aL => have := LMc23.out; omega); intro v255 w37 ho hb hg hat; rw [← Ny254.out] at ho; have n0_ := Aside0.mk (hb); have n1_ := Aside0.mk (ho); clear HB; clear HO_5; have HB := n0_; have HO256 := n1_; clear n0_ n1_; clear ho hb hg hat; obtain ⟨Ao38, co38, eo38⟩ := Kd.R_slice HO256.out; subst eo38; have p259 : 0 ≤ ((ji33) : Int) := of_decide_eq_true (by first | (with_reducible assumption) | assumption); have q259 : (ji33) < (y254.length : Int) := of_decide_eq_true (by first | (with_reducible assumption) | assumption); obtain ⟨ad259, e259, hx259_0, hx259_1, hx259_2, hx259_3⟩ := at_T35 (Kd.R_reads' HO256.out).2.2 (ji33) p259 q259; cases e259; replace p259 := eq_true p259; replace q259 := eq_true q259; have p36 : 0 ≤ ((ji33) : Int) := of_decide_eq_true (by first | (with_reducible assumption) | assumption); have q36 : ((ji33) : Int) < ((y254.length : Int) : Int) := of_decide_eq_true (by first | (with_reducible assumption) | assumption); obtain ⟨go36, co36, eo36, gb36, gl36, cl36, HG36⟩ := Kd.R_form HO256.out (by omega); (first | cases eo36 | (injection eo36 with ea_ en_ ec_; (first | subst ea_ | (injection ea_ with ea_; subst ea_)); subst ec_; clear en_)); have GB36 := Aside0.mk gb36; have GG36 := Aside0.mk HG36; clear gb36 gl36 HG36; (first | simp only [add_plain] at hx259_0 | skip); (first | simp only [add_plain] at hx259_1 | skip); (first | simp only [add_plain] at hx259_2 | skip); (first | simp only [add_plain] at hx259_3 | skip); obtain ⟨ce36, hcl36, hM36, hcc36, hfr36⟩ := Kd.R_elem HO256.out z35 ((ji33) : Int) p36 q36; obtain rfl := k35_openM hM36; have hx36_0 : w37.cell? ⟨go36, ((ji33) : Int).toNat * 4, none⟩ = some (.int .i64 ((rd_T35 y254 (ji33)).f0)) := hcc36 0 _ rfl; have hx36_1 : w37.cell? ⟨go36, ((ji33) : Int).toNat * 4 + 1, none⟩ = some (.int .i64 ((rd_T35 y254 (ji33)).f1)) := hcc36 1 _ rfl; have hx36_2 : w37.cell? ⟨go36, ((ji33) : Int).toNat * 4 + 2, none⟩ = some (.int .i64 ((rd_T35 y254 (ji33)).f2)) := hcc36 2 _ rfl; have hx36_3 : w37.cell? ⟨go36, ((ji33) : Int).toNat * 4 + 3, none⟩ = some (.int .i64 ((rd_T35 y254 (ji33)).f3)) := hcc36 3 _ rfl; have hf36_0 : w37.frozen? ⟨go36, ((ji33) : Int).toNat * 4, none⟩ = false := hfr36 0; have hf36_1 : w37.frozen? ⟨go36, ((ji33) : Int).toNat * 4 + 1, none⟩ = false := hfr36 1; have hf36_2 : w37.frozen? ⟨go36, ((ji33) : Int).toNat * 4 + 2, none⟩ = false := hfr36 2; have hf36_3 : w37.frozen? ⟨go36, ((ji33) : Int).toNat * 4 + 3, none⟩ = false := hfr36 3; (try clear hcl36); (try clear hcc36); (try clear hfr36); (try clear hM36); replace p36 := eq_true p36; replace q36 := eq_true q36; have HX39 := Aside0.mk (show Kd.R k35 35 w37 w.heap.size (fun _ => True) (.slice (some ⟨go36, 0, none⟩) y254.length co38) y254 from (by (with_reducible repeat (first | apply Kd.R_alloc | apply Kd.R_drewN | apply Kd.R_drew)); exact HO256.out)); obtain ⟨ce39, hcl39, hM39, hcc39, hfr39⟩ := Kd.R_elem HX39.out z35 ((ji33) : Int) (of_decide_eq_true (by first | (with_reducible assumption) | assumption)) (by have h_ : ((ji33) : Int) < ((y254.length : Int) : Int) := of_decide_eq_true (by first | (with_reducible assumption) | assumption); first | exact h_ | (have e_ := (Kd.R_reads' HO256.out).1; omega) | simpa using h_); obtain rfl := k35_openM hM39; have HP39 := Kd.R_seg HX39.out ((ji33) : Int) (of_decide_eq_true (by first | (with_reducible assumption) | assumption)) (by have h_ : ((ji33) : Int) < ((y254.length : Int) : Int) := of_decide_eq_true (by first | (with_reducible assumption) | assumption); first | exact h_ | (have e_ := (Kd.R_reads' HO256.out).1; omega) | simpa using h_) (seg := [.int .i64 (wrap64 (((rd_T35 y254 (ji33)).f3) + 1))]) (j := 3) hcl39 hcc39 (show 4 ≤ 4 from by decide) (x' := (⟨(rd_T35 y254 (ji33)).f0, (rd_T35 y254 (ji33)).f1, (rd_T35 y254 (ji33)).f2, wrap64 (((rd_T35 y254 (ji33)).f3) + 1)⟩ : S35)) (k35_mkM _ _ _ (⟨(rd_T35 y254 (ji33)).f0, (rd_T35 y254 (ji33)).f1, (rd_T35 y254 (ji33)).f2, wrap64 (((rd_T35 y254 (ji33)).f3) + 1)⟩ : S35) ) (fun _ hk => hk); have hx39_3 := hcc39 3 _ rfl; (try simp only [show (k35).sz = 4 from rfl, Nat.mul_one, Nat.add_zero] at hx39_3); have hf39_3 := hfr39 3; (try simp only [show (k35).sz = 4 from rfl, Nat.mul_one, Nat.add_zero] at hf39_3); (try clear hcl39); (try clear hcc39); (try clear hfr39); (try clear hM39)) | ((with_reducible refine gate_store (t := 3) (p := 118) rfl ?_); (try (rw [drewN_self w37]; generalize hq_ : World.drewN w37 _ = w37; have n0_ := Aside0.mk (Kd.R_at hq_ HO256.out); have n1_ := Aside0.mk (below_at hq_ HB.out); clear hq_ HO256 HB; have HO256 := n0_; have HB := n1_; clear n0_ n1_; (try (have HX39 := Aside0.mk (show Kd.R k35 35 w37 w.heap.size (fun _ => True) (.slice (some ⟨go36, 0, none⟩) y254.length co38) y254 from (by (with_reducible repeat (first | apply Kd.R_alloc | apply Kd.R_drewN | apply Kd.R_drew)); exact HO256.out)))); (try (obtain ⟨ce39, hcl39, hM39, hcc39, hfr39⟩ := Kd.R_elem HX39.out z35 ((ji33) : Int) (of_decide_eq_true (by first | (with_reducible assumption) | assumption)) (by have h_ : ((ji33) : Int) < ((y254.length : Int) : Int) := of_decide_eq_true (by first | (with_reducible assumption) | assumption); first | exact h_ | (have e_ := (Kd.R_reads' HO256.out).1; omega) | simpa using h_))); (try (obtain rfl := k35_openM hM39)); (try (have HP39 := Kd.R_seg HX39.out ((ji33) : Int) (of_decide_eq_true (by first | (with_reducible assumption) | assumption)) (by have h_ : ((ji33) : Int) < ((y254.length : Int) : Int) := of_decide_eq_true (by first | (with_reducible assumption) | assumption); first | exact h_ | (have e_ := (Kd.R_reads' HO256.out).1; omega) | simpa using h_) (seg := [.int .i64 (wrap64 (((rd_T35 y254 (ji33)).f3) + 1))]) (j := 3) hcl39 hcc39 (show 4 ≤ 4 from by decide) (x' := (⟨(rd_T35 y254 (ji33)).f0, (rd_T35 y254 (ji33)).f1, (rd_T35 y254 (ji33)).f2, wrap64 (((rd_T35 y254 (ji33)).f3) + 1)⟩ : S35)) (k35_mkM _ _ _ (⟨(rd_T35 y254 (ji33)).f0, (rd_T35 y254 (ji33)).f1, (rd_T35 y254 (ji33)).f2, wrap64 (((rd_T35 y254 (ji33)).f3) + 1)⟩ : S35) ) (fun _ hk => hk))); (try (have hx39_3 := hcc39 3 _ rfl)); (try (try simp only [show (k35).sz = 4 from rfl, Nat.mul_one, Nat.add_zero] at hx39_3)); (try (have hf39_3 := hfr39 3)); (try (try simp only [show (k35).sz = 4 from rfl, Nat.mul_one, Nat.add_zero] at hf39_3)); (try (try clear hcl39); (try clear hcc39); (try clear hfr39); (try clear hM39)))); refine store_event (t := 3) (p := 118) (v := ?vo_w40) (w1 := (w37.setCell ⟨go36, ((ji33) : Int).toNat * 4 + 3, none⟩ (.int .i64 (wrap64 (((rd_T35 y254 (ji33)).f3) + 1))))) ?hg ?ho ?hn ?hr ?_; (case ho => rfl); (case hg => rfl); (case hn => rfl); (case hr => first | (go_simp; done) | (go_simp; rfl)); intro w40 hw; have hg : w37.grownBy w40 (some go36) := (by rw [hw]; exact HP39.2); have hp_ : Kd.R k35 35 w40 w.heap.size (fun _ => True) (.slice (some ⟨go36, 0, none⟩) y254.length co38) y260 := (by rw [hw, Ny260.out]; exact HP39.1); clear HP39; have n0_ := Aside0.mk (hp_); have n1_ := Aside0.mk ((by rw [hw]; exact below_set (HB.out) GB36.out : Below w.heap.size w w40)); clear HO256; clear HB; have HO256 := n0_; have HB := n1_; clear n0_ n1_; clear hg hw hp_)); try go_wp2_with (first | ((with_reducible refine gate_builtin (b := .append) (xs := #[.tmp 91, .tmp 95]) rfl ?_); at_builtin; refine Kd.R_append k35 (w0 := w) w.heap.size rfl (.tmp 91) (.tmp 95) 22 35 (.agg #[(.int .i64 0), (.int .i64 0), (.int .i64 0), (.int .i64 0)]) 32 rfl Try.underlying22 info35 rfl (by decide) (by omega) (.slice Ao16 x5_2.length co16) x5_2 (⟨x7_2, 0, x8_2, 0⟩ : S35) [.int .i64 x7_2, .int .i64 0, .int .i64 x8_2, .int .i64 0] (fun _ => True) (fun _ => False) rfl rfl ?aP (fun _ hk => hk.elim) ?aF ?aO ?aB ?aS ?aL ?_; (case aP => exact k35_mkM _ _ _ (⟨x7_2, 0, x8_2, 0⟩ : S35)); (case aB => exact (by repeat (first | (with_reducible first | exact HB.out | apply below_alloc | apply pw_below_drewN | apply below_drew1) | exact HB.out))); (case aF => exact (fun _ _ => trivial)); (case aO => exact (by (with_reducible repeat (first | apply Kd.R_alloc | apply Kd.R_drewN | apply Kd.R_drew)); exact HO_5.out)); (case aS => exact (below_size (by repeat (first | (with_reducible first | exact HB.out | apply below_alloc | apply pw_below_drewN | apply below_drew1) | exact HB.out)))); (case aL => have := LMc23.out; omega); intro v255 w37 ho hb hg hat; rw [← Ny254.out] at ho; have n0_ := Aside0.mk (hb); have n1_ := Aside0.mk (ho); clear HB; clear HO_5; have HB := n0_; have HO256 := n1_; clear n0_ n1_; clear ho hb hg hat; obtain ⟨Ao38, co38, eo38⟩ := Kd.R_slice HO256.out; subst eo38; have p259 : 0 ≤ ((ji33) : Int) := of_decide_eq_true (by first | (with_reducible assumption) | assumption); have q259 : (ji33) < (y254.length : Int) := of_decide_eq_true (by first | (with_reducible assumption) | assumption); obtain ⟨ad259, e259, hx259_0, hx259_1, hx259_2, hx259_3⟩ := at_T35 (Kd.R_reads' HO256.out).2.2 (ji33) p259 q259; cases e259; replace p259 := eq_true p259; replace q259 := eq_true q259; have p36 : 0 ≤ ((ji33) : Int) := of_decide_eq_true (by first | (with_reducible assumption) | assumption); have q36 : ((ji33) : Int) < ((y254.length : Int) : Int) := of_decide_eq_true (by first | (with_reducible assumption) | assumption); obtain ⟨go36, co36, eo36, gb36, gl36, cl36, HG36⟩ := Kd.R_form HO256.out (by omega); (first | cases eo36 | (injection eo36 with ea_ en_ ec_; (first | subst ea_ | (injection ea_ with ea_; subst ea_)); subst ec_; clear en_)); have GB36 := Aside0.mk gb36; have GG36 := Aside0.mk HG36; clear gb36 gl36 HG36; (first | simp only [add_plain] at hx259_0 | skip); (first | simp only [add_plain] at hx259_1 | skip); (first | simp only [add_plain] at hx259_2 | skip); (first | simp only [add_plain] at hx259_3 | skip); obtain ⟨ce36, hcl36, hM36, hcc36, hfr36⟩ := Kd.R_elem HO256.out z35 ((ji33) : Int) p36 q36; obtain rfl := k35_openM hM36; have hx36_0 : w37.cell? ⟨go36, ((ji33) : Int).toNat * 4, none⟩ = some (.int .i64 ((rd_T35 y254 (ji33)).f0)) := hcc36 0 _ rfl; have hx36_1 : w37.cell? ⟨go36, ((ji33) : Int).toNat * 4 + 1, none⟩ = some (.int .i64 ((rd_T35 y254 (ji33)).f1)) := hcc36 1 _ rfl; have hx36_2 : w37.cell? ⟨go36, ((ji33) : Int).toNat * 4 + 2, none⟩ = some (.int .i64 ((rd_T35 y254 (ji33)).f2)) := hcc36 2 _ rfl; have hx36_3 : w37.cell? ⟨go36, ((ji33) : Int).toNat * 4 + 3, none⟩ = some (.int .i64 ((rd_T35 y254 (ji33)).f3)) := hcc36 3 _ rfl; have hf36_0 : w37.frozen? ⟨go36, ((ji33) : Int).toNat * 4, none⟩ = false := hfr36 0; have hf36_1 : w37.frozen? ⟨go36, ((ji33) : Int).toNat * 4 + 1, none⟩ = false := hfr36 1; have hf36_2 : w37.frozen? ⟨go36, ((ji33) : Int).toNat * 4 + 2, none⟩ = false := hfr36 2; have hf36_3 : w37.frozen? ⟨go36, ((ji33) : Int).toNat * 4 + 3, none⟩ = false := hfr36 3; (try clear hcl36); (try clear hcc36); (try clear hfr36); (try clear hM36); replace p36 := eq_true p36; replace q36 := eq_true q36; have HX39 := Aside0.mk (show Kd.R k35 35 w37 w.heap.size (fun _ => True) (.slice (some ⟨go36, 0, none⟩) y254.length co38) y254 from (by (with_reducible repeat (first | apply Kd.R_alloc | apply Kd.R_drewN | apply Kd.R_drew)); exact HO256.out)); obtain ⟨ce39, hcl39, hM39, hcc39, hfr39⟩ := Kd.R_elem HX39.out z35 ((ji33) : Int) (of_decide_eq_true (by first | (with_reducible assumption) | assumption)) (by have h_ : ((ji33) : Int) < ((y254.length : Int) : Int) := of_decide_eq_true (by first | (with_reducible assumption) | assumption); first | exact h_ | (have e_ := (Kd.R_reads' HO256.out).1; omega) | simpa using h_); obtain rfl := k35_openM hM39; have HP39 := Kd.R_seg HX39.out ((ji33) : Int) (of_decide_eq_true (by first | (with_reducible assumption) | assumption)) (by have h_ : ((ji33) : Int) < ((y254.length : Int) : Int) := of_decide_eq_true (by first | (with_reducible assumption) | assumption); first | exact h_ | (have e_ := (Kd.R_reads' HO256.out).1; omega) | simpa using h_) (seg := [.int .i64 (wrap64 (((rd_T35 y254 (ji33)).f3) + 1))]) (j := 3) hcl39 hcc39 (show 4 ≤ 4 from by decide) (x' := (⟨(rd_T35 y254 (ji33)).f0, (rd_T35 y254 (ji33)).f1, (rd_T35 y254 (ji33)).f2, wrap64 (((rd_T35 y254 (ji33)).f3) + 1)⟩ : S35)) (k35_mkM _ _ _ (⟨(rd_T35 y254 (ji33)).f0, (rd_T35 y254 (ji33)).f1, (rd_T35 y254 (ji33)).f2, wrap64 (((rd_T35 y254 (ji33)).f3) + 1)⟩ : S35) ) (fun _ hk => hk); have hx39_3 := hcc39 3 _ rfl; (try simp only [show (k35).sz = 4 from rfl, Nat.mul_one, Nat.add_zero] at hx39_3); have hf39_3 := hfr39 3; (try simp only [show (k35).sz = 4 from rfl, Nat.mul_one, Nat.add_zero] at hf39_3); (try clear hcl39); (try clear hcc39); (try clear hfr39); (try clear hM39)) | ((with_reducible refine gate_store (t := 3) (p := 118) rfl ?_); (try (rw [drewN_self w37]; generalize hq_ : World.drewN w37 _ = w37; have n0_ := Aside0.mk (Kd.R_at hq_ HO256.out); have n1_ := Aside0.mk (below_at hq_ HB.out); clear hq_ HO256 HB; have HO256 := n0_; have HB := n1_; clear n0_ n1_; (try (have HX39 := Aside0.mk (show Kd.R k35 35 w37 w.heap.size (fun _ => True) (.slice (some ⟨go36, 0, none⟩) y254.length co38) y254 from (by (with_reducible repeat (first | apply Kd.R_alloc | apply Kd.R_drewN | apply Kd.R_drew)); exact HO256.out)))); (try (obtain ⟨ce39, hcl39, hM39, hcc39, hfr39⟩ := Kd.R_elem HX39.out z35 ((ji33) : Int) (of_decide_eq_true (by first | (with_reducible assumption) | assumption)) (by have h_ : ((ji33) : Int) < ((y254.length : Int) : Int) := of_decide_eq_true (by first | (with_reducible assumption) | assumption); first | exact h_ | (have e_ := (Kd.R_reads' HO256.out).1; omega) | simpa using h_))); (try (obtain rfl := k35_openM hM39)); (try (have HP39 := Kd.R_seg HX39.out ((ji33) : Int) (of_decide_eq_true (by first | (with_reducible assumption) | assumption)) (by have h_ : ((ji33) : Int) < ((y254.length : Int) : Int) := of_decide_eq_true (by first | (with_reducible assumption) | assumption); first | exact h_ | (have e_ := (Kd.R_reads' HO256.out).1; omega) | simpa using h_) (seg := [.int .i64 (wrap64 (((rd_T35 y254 (ji33)).f3) + 1))]) (j := 3) hcl39 hcc39 (show 4 ≤ 4 from by decide) (x' := (⟨(rd_T35 y254 (ji33)).f0, (rd_T35 y254 (ji33)).f1, (rd_T35 y254 (ji33)).f2, wrap64 (((rd_T35 y254 (ji33)).f3) + 1)⟩ : S35)) (k35_mkM _ _ _ (⟨(rd_T35 y254 (ji33)).f0, (rd_T35 y254 (ji33)).f1, (rd_T35 y254 (ji33)).f2, wrap64 (((rd_T35 y254 (ji33)).f3) + 1)⟩ : S35) ) (fun _ hk => hk))); (try (have hx39_3 := hcc39 3 _ rfl)); (try (try simp only [show (k35).sz = 4 from rfl, Nat.mul_one, Nat.add_zero] at hx39_3)); (try (have hf39_3 := hfr39 3)); (try (try simp only [show (k35).sz = 4 from rfl, Nat.mul_one, Nat.add_zero] at hf39_3)); (try (try clear hcl39); (try clear hcc39); (try clear hfr39); (try clear hM39)))); refine store_event (t := 3) (p := 118) (v := ?vo_w40) (w1 := (w37.setCell ⟨go36, ((ji33) : Int).toNat * 4 + 3, none⟩ (.int .i64 (wrap64 (((rd_T35 y254 (ji33)).f3) + 1))))) ?hg ?ho ?hn ?hr ?_; (case ho => rfl); (case hg => rfl); (case hn => rfl); (case hr => first | (go_simp; done) | (go_simp; rfl)); intro w40 hw; have hg : w37.grownBy w40 (some go36) := (by rw [hw]; exact HP39.2); have hp_ : Kd.R k35 35 w40 w.heap.size (fun _ => True) (.slice (some ⟨go36, 0, none⟩) y254.length co38) y260 := (by rw [hw, Ny260.out]; exact HP39.1); clear HP39; have n0_ := Aside0.mk (hp_); have n1_ := Aside0.mk ((by rw [hw]; exact below_set (HB.out) GB36.out : Below w.heap.size w w40)); clear HO256; clear HB; have HO256 := n0_; have HB := n1_; clear n0_ n1_; clear hg hw hp_)))
                     go_roundg kj14
                     case measure => have := HK1.out; have := HK2.out; have := HJ14.out; omega
                     case rel => exact ⟨(y260), (x7_2), (wrap64 (x8_2 + 1)), (wrap64 (x9_2 + 1)), (by first | rfl | (simp; done) | (simp [*]; done)), (by first | rfl | (simp; done) | (simp [*]; done)), (by first | rfl | (simp; done) | (simp [*]; done)), (by first | exact H' | (rw [hji18]; exact H')), ⟨by have := HK1.out; have := HK2.out; have := HJ14.out; omega⟩, ⟨by (with_reducible repeat (first | apply Kd.R_alloc | apply Kd.R_drewN | apply Kd.R_drew)); exact HO256.out⟩, ⟨by repeat (first | (with_reducible first | exact HB.out | apply below_alloc | apply pw_below_drewN | apply below_drew1) | exact HB.out)⟩⟩
                    ·rw [if_neg c35] at H
                     exact absurd H (by simp)
                   ·rw [if_neg c34] at H
                    exact absurd H (by simp)
                 ·rw [if_neg c23] at H
                  exact absurd H (by simp)
                ·replace c22 := Bool.eq_false_iff.mpr c22
                 subst c22
                 have H1 : (if ((rd_T46 ((rd_T39 l0 x6_1).f4) x9_2).f0) = 45 then (if 0 ≤ (wrap64 ((x5_2.length : Int) - 1)) then (if (wrap64 ((x5_2.length : Int) - 1)) < (x5_2.length : Int) then (redlineref11_Changes.l1 kj14 l0 (x5_2.set ((wrap64 ((x5_2.length : Int) - 1)) : Int).toNat (⟨(rd_T35 x5_2 (wrap64 ((x5_2.length : Int) - 1))).f0, wrap64 (((rd_T35 x5_2 (wrap64 ((x5_2.length : Int) - 1))).f1) + 1), (rd_T35 x5_2 (wrap64 ((x5_2.length : Int) - 1))).f2, (rd_T35 x5_2 (wrap64 ((x5_2.length : Int) - 1))).f3⟩ : S35)) x6_1 (wrap64 (x7_2 + 1)) x8_2 (wrap64 (x9_2 + 1))) else (none)) else (none)) else (if 0 ≤ (wrap64 ((x5_2.length : Int) - 1)) then (if (wrap64 ((x5_2.length : Int) - 1)) < (x5_2.length : Int) then (redlineref11_Changes.l1 kj14 l0 (x5_2.set ((wrap64 ((x5_2.length : Int) - 1)) : Int).toNat (⟨(rd_T35 x5_2 (wrap64 ((x5_2.length : Int) - 1))).f0, (rd_T35 x5_2 (wrap64 ((x5_2.length : Int) - 1))).f1, (rd_T35 x5_2 (wrap64 ((x5_2.length : Int) - 1))).f2, wrap64 (((rd_T35 x5_2 (wrap64 ((x5_2.length : Int) - 1))).f3) + 1)⟩ : S35)) x6_1 x7_2 (wrap64 (x8_2 + 1)) (wrap64 (x9_2 + 1))) else (none)) else (none))) = some (r1, r2) := by rw [if_neg (show ¬ (false = true) by decide)] at H; exact H
                 clear H
                 have H := H1
                 clear H1
                 by_cases c41 : ((rd_T46 ((rd_T39 l0 x6_1).f4) x9_2).f0) = 45
                 ·rw [if_pos c41] at H
                  have c41b0 : (((rd_T46 ((rd_T39 l0 x6_1).f4) x9_2).f0) == 45) = true := beq_iff_eq.mpr c41
                  have c41b1 : (((rd_T46 ((rd_T39 l0 x6_1).f4) x9_2).f0) != 45) = false := bne_eq_false_iff_eq.mpr c41
                  clear c41
                  obtain ⟨ji42, hji42⟩ : ∃ j_ : Int, (wrap64 ((x5_2.length : Int) - 1)) = j_ := ⟨_, rfl⟩
                  replace H : (if 0 ≤ (ji42) then (if (ji42) < (x5_2.length : Int) then (redlineref11_Changes.l1 kj14 l0 (x5_2.set ((ji42) : Int).toNat (⟨(rd_T35 x5_2 (ji42)).f0, wrap64 (((rd_T35 x5_2 (ji42)).f1) + 1), (rd_T35 x5_2 (ji42)).f2, (rd_T35 x5_2 (ji42)).f3⟩ : S35)) x6_1 (wrap64 (x7_2 + 1)) x8_2 (wrap64 (x9_2 + 1))) else (none)) else (none)) = some (r1, r2) := by first | (rw [hji42] at H; exact H) | (simp only [hji42] at H ⊢; exact H)
                  have hji42w : (IntKind.i64.wrap ((x5_2.length : Int) - 1)) = ji42 := (i64_w _).trans hji42
                  by_cases c43 : 0 ≤ (ji42)
                  ·rw [if_pos c43] at H
                   have c43b0 : decide (0 ≤ (ji42)) = true := decide_eq_true c43
                   clear c43
                   by_cases c44 : (ji42) < (x5_2.length : Int)
                   ·rw [if_pos c44] at H
                    have c44b0 : decide ((ji42) < (x5_2.length : Int)) = true := decide_eq_true c44
                    clear c44
                    obtain ⟨y262, hy262⟩ : ∃ y_ : List (S35), y_ = (x5_2.set ((ji42) : Int).toNat (⟨(rd_T35 x5_2 (ji42)).f0, wrap64 (((rd_T35 x5_2 (ji42)).f1) + 1), (rd_T35 x5_2 (ji42)).f2, (rd_T35 x5_2 (ji42)).f3⟩ : S35)) := ⟨_, rfl⟩
                    replace H : (redlineref11_Changes.l1 kj14 l0 y262 x6_1 (wrap64 (x7_2 + 1)) x8_2 (wrap64 (x9_2 + 1))) = some (r1, r2) := by first | (rw [hy262]; with_reducible exact H) | (have H2_ := (Option.bind_some _ _).symm.trans H; rw [hy262]; with_reducible exact H2_) | (have H2_ := (Option.bind_some _ _).symm.trans H; with_reducible exact H2_) | with_reducible exact H | (rw [hy262]; exact H) | exact H
                    have Ny262 := Aside0.mk hy262
                    clear hy262
                    have H' := Aside0.mk H
                    clear H
                    have p261 : 0 ≤ ((ji42) : Int) := of_decide_eq_true (by first | (with_reducible assumption) | assumption)
                    have q261 : (ji42) < (x5_2.length : Int) := of_decide_eq_true (by first | (with_reducible assumption) | assumption)
                    obtain ⟨ad261, e261, hx261_0, hx261_1, hx261_2, hx261_3⟩ := at_T35 (Kd.R_reads' HO_5.out).2.2 (ji42) p261 q261
                    cases e261
                    replace p261 := eq_true p261
                    replace q261 := eq_true q261
                    have p45 : 0 ≤ ((ji42) : Int) := of_decide_eq_true (by first | (with_reducible assumption) | assumption)
                    have q45 : ((ji42) : Int) < ((x5_2.length : Int) : Int) := of_decide_eq_true (by first | (with_reducible assumption) | assumption)
                    obtain ⟨go45, co45, eo45, gb45, gl45, cl45, HG45⟩ := Kd.R_form HO_5.out (by omega)
                    (first | cases eo45 | (injection eo45 with ea_ en_ ec_; (first | subst ea_ | (injection ea_ with ea_; subst ea_)); subst ec_; clear en_))
                    have GB45 := Aside0.mk gb45
                    have GG45 := Aside0.mk HG45
                    clear gb45 gl45 HG45
                    (first | simp only [add_plain] at hx261_0 | skip)
                    (first | simp only [add_plain] at hx261_1 | skip)
                    (first | simp only [add_plain] at hx261_2 | skip)
                    (first | simp only [add_plain] at hx261_3 | skip)
                    obtain ⟨ce45, hcl45, hM45, hcc45, hfr45⟩ := Kd.R_elem HO_5.out z35 ((ji42) : Int) p45 q45
                    obtain rfl := k35_openM hM45
                    have hx45_0 : wc.cell? ⟨go45, ((ji42) : Int).toNat * 4, none⟩ = some (.int .i64 ((rd_T35 x5_2 (ji42)).f0)) := hcc45 0 _ rfl
                    have hx45_1 : wc.cell? ⟨go45, ((ji42) : Int).toNat * 4 + 1, none⟩ = some (.int .i64 ((rd_T35 x5_2 (ji42)).f1)) := hcc45 1 _ rfl
                    have hx45_2 : wc.cell? ⟨go45, ((ji42) : Int).toNat * 4 + 2, none⟩ = some (.int .i64 ((rd_T35 x5_2 (ji42)).f2)) := hcc45 2 _ rfl
                    have hx45_3 : wc.cell? ⟨go45, ((ji42) : Int).toNat * 4 + 3, none⟩ = some (.int .i64 ((rd_T35 x5_2 (ji42)).f3)) := hcc45 3 _ rfl
                    have hf45_0 : wc.frozen? ⟨go45, ((ji42) : Int).toNat * 4, none⟩ = false := hfr45 0
                    have hf45_1 : wc.frozen? ⟨go45, ((ji42) : Int).toNat * 4 + 1, none⟩ = false := hfr45 1
                    have hf45_2 : wc.frozen? ⟨go45, ((ji42) : Int).toNat * 4 + 2, none⟩ = false := hfr45 2
                    have hf45_3 : wc.frozen? ⟨go45, ((ji42) : Int).toNat * 4 + 3, none⟩ = false := hfr45 3
                    (try clear hcl45); (try clear hcc45); (try clear hfr45); (try clear hM45)
                    replace p45 := eq_true p45
                    replace q45 := eq_true q45
                    have HX46 := Aside0.mk (show Kd.R k35 35 wc w.heap.size (fun _ => True) (.slice (some ⟨go45, 0, none⟩) x5_2.length co16) x5_2 from (by (with_reducible repeat (first | apply Kd.R_alloc | apply Kd.R_drewN | apply Kd.R_drew)); exact HO_5.out))
                    obtain ⟨ce46, hcl46, hM46, hcc46, hfr46⟩ := Kd.R_elem HX46.out z35 ((ji42) : Int) (of_decide_eq_true (by first | (with_reducible assumption) | assumption)) (by have h_ : ((ji42) : Int) < ((x5_2.length : Int) : Int) := of_decide_eq_true (by first | (with_reducible assumption) | assumption); first | exact h_ | (have e_ := (Kd.R_reads' HO_5.out).1; omega) | simpa using h_)
                    obtain rfl := k35_openM hM46
                    have HP46 := Kd.R_seg HX46.out ((ji42) : Int) (of_decide_eq_true (by first | (with_reducible assumption) | assumption)) (by have h_ : ((ji42) : Int) < ((x5_2.length : Int) : Int) := of_decide_eq_true (by first | (with_reducible assumption) | assumption); first | exact h_ | (have e_ := (Kd.R_reads' HO_5.out).1; omega) | simpa using h_) (seg := [.int .i64 (wrap64 (((rd_T35 x5_2 (ji42)).f1) + 1))]) (j := 1) hcl46 hcc46 (show 2 ≤ 4 from by decide) (x' := (⟨(rd_T35 x5_2 (ji42)).f0, wrap64 (((rd_T35 x5_2 (ji42)).f1) + 1), (rd_T35 x5_2 (ji42)).f2, (rd_T35 x5_2 (ji42)).f3⟩ : S35)) (k35_mkM _ _ _ (⟨(rd_T35 x5_2 (ji42)).f0, wrap64 (((rd_T35 x5_2 (ji42)).f1) + 1), (rd_T35 x5_2 (ji42)).f2, (rd_T35 x5_2 (ji42)).f3⟩ : S35) ) (fun _ hk => hk)
                    have hx46_1 := hcc46 1 _ rfl
                    (try simp only [show (k35).sz = 4 from rfl, Nat.mul_one, Nat.add_zero] at hx46_1)
                    have hf46_1 := hfr46 1
                    (try simp only [show (k35).sz = 4 from rfl, Nat.mul_one, Nat.add_zero] at hf46_1)
                    (try clear hcl46); (try clear hcc46); (try clear hfr46); (try clear hM46)
                    go_wp2_with (first | ((with_reducible refine gate_store (t := 3) (p := 108) rfl ?_); (try (rw [drewN_self wc]; generalize hq_ : World.drewN wc _ = wc; have n0_ := Aside0.mk (Kd.R_at hq_ HO_5.out); have n1_ := Aside0.mk (below_at hq_ HB.out); clear hq_ HO_5 HB; have HO_5 := n0_; have HB := n1_; clear n0_ n1_; (try (have HX46 := Aside0.mk (show Kd.R k35 35 wc w.heap.size (fun _ => True) (.slice (some ⟨go45, 0, none⟩) x5_2.length co16) x5_2 from (by (with_reducible repeat (first | apply Kd.R_alloc | apply Kd.R_drewN | apply Kd.R_drew)); exact HO_5.out)))); (try (obtain ⟨ce46, hcl46, hM46, hcc46, hfr46⟩ := Kd.R_elem HX46.out z35 ((ji42) : Int) (of_decide_eq_true (by first | (with_reducible assumption) | assumption)) (by have h_ : ((ji42) : Int) < ((x5_2.length : Int) : Int) := of_decide_eq_true (by first | (with_reducible assumption) | assumption); first | exact h_ | (have e_ := (Kd.R_reads' HO_5.out).1; omega) | simpa using h_))); (try (obtain rfl := k35_openM hM46)); (try (have HP46 := Kd.R_seg HX46.out ((ji42) : Int) (of_decide_eq_true (by first | (with_reducible assumption) | assumption)) (by have h_ : ((ji42) : Int) < ((x5_2.length : Int) : Int) := of_decide_eq_true (by first | (with_reducible assumption) | assumption); first | exact h_ | (have e_ := (Kd.R_reads' HO_5.out).1; omega) | simpa using h_) (seg := [.int .i64 (wrap64 (((rd_T35 x5_2 (ji42)).f1) + 1))]) (j := 1) hcl46 hcc46 (show 2 ≤ 4 from by decide) (x' := (⟨(rd_T35 x5_2 (ji42)).f0, wrap64 (((rd_T35 x5_2 (ji42)).f1) + 1), (rd_T35 x5_2 (ji42)).f2, (rd_T35 x5_2 (ji42)).f3⟩ : S35)) (k35_mkM _ _ _ (⟨(rd_T35 x5_2 (ji42)).f0, wrap64 (((rd_T35 x5_2 (ji42)).f1) + 1), (rd_T35 x5_2 (ji42)).f2, (rd_T35 x5_2 (ji42)).f3⟩ : S35) ) (fun _ hk => hk))); (try (have hx46_1 := hcc46 1 _ rfl)); (try (try simp only [show (k35).sz = 4 from rfl, Nat.mul_one, Nat.add_zero] at hx46_1)); (try (have hf46_1 := hfr46 1)); (try (try simp only [show (k35).sz = 4 from rfl, Nat.mul_one, Nat.add_zero] at hf46_1)); (try (try clear hcl46); (try clear hcc46); (try clear hfr46); (try clear hM46)))); refine store_event (t := 3) (p := 108) (v := ?vo_w47) (w1 := (wc.setCell ⟨go45, ((ji42) : Int).toNat * 4 + 1, none⟩ (.int .i64 (wrap64 (((rd_T35 x5_2 (ji42)).f1) + 1))))) ?hg ?ho ?hn ?hr ?_; (case ho => rfl); (case hg => rfl); (case hn => rfl); (case hr => first | (go_simp; done) | (go_simp; rfl)); intro w47 hw; have hg : wc.grownBy w47 (some go45) := (by rw [hw]; exact HP46.2); have hp_ : Kd.R k35 35 w47 w.heap.size (fun _ => True) (.slice (some ⟨go45, 0, none⟩) x5_2.length co16) y262 := (by rw [hw, Ny262.out]; exact HP46.1); clear HP46; have n0_ := Aside0.mk (hp_); have n1_ := Aside0.mk ((by rw [hw]; exact below_set (HB.out) GB45.out : Below w.heap.size w w47)); clear HO_5; clear HB; have HO_5 := n0_; have HB := n1_; clear n0_ n1_; clear hg hw hp_))
                    repeat (go_quiet (first | ((with_reducible refine gate_store (t := 3) (p := 108) rfl ?_); (try (rw [drewN_self wc]; generalize hq_ : World.drewN wc _ = wc; have n0_ := Aside0.mk (Kd.R_at hq_ HO_5.out); have n1_ := Aside0.mk (below_at hq_ HB.out); clear hq_ HO_5 HB; have HO_5 := n0_; have HB := n1_; clear n0_ n1_; (try (have HX46 := Aside0.mk (show Kd.R k35 35 wc w.heap.size (fun _ => True) (.slice (some ⟨go45, 0, none⟩) x5_2.length co16) x5_2 from (by (with_reducible repeat (first | apply Kd.R_alloc | apply Kd.R_drewN | apply Kd.R_drew)); exact HO_5.out)))); (try (obtain ⟨ce46, hcl46, hM46, hcc46, hfr46⟩ := Kd.R_elem HX46.out z35 ((ji42) : Int) (of_decide_eq_true (by first | (with_reducible assumption) | assumption)) (by have h_ : ((ji42) : Int) < ((x5_2.length : Int) : Int) := of_decide_eq_true (by first | (with_reducible assumption) | assumption); first | exact h_ | (have e_ := (Kd.R_reads' HO_5.out).1; omega) | simpa using h_))); (try (obtain rfl := k35_openM hM46)); (try (have HP46 := Kd.R_seg HX46.out ((ji42) : Int) (of_decide_eq_true (by first | (with_reducible assumption) | assumption)) (by have h_ : ((ji42) : Int) < ((x5_2.length : Int) : Int) := of_decide_eq_true (by first | (with_reducible assumption) | assumption); first | exact h_ | (have e_ := (Kd.R_reads' HO_5.out).1; omega) | simpa using h_) (seg := [.int .i64 (wrap64 (((rd_T35 x5_2 (ji42)).f1) + 1))]) (j := 1) hcl46 hcc46 (show 2 ≤ 4 from by decide) (x' := (⟨(rd_T35 x5_2 (ji42)).f0, wrap64 (((rd_T35 x5_2 (ji42)).f1) + 1), (rd_T35 x5_2 (ji42)).f2, (rd_T35 x5_2 (ji42)).f3⟩ : S35)) (k35_mkM _ _ _ (⟨(rd_T35 x5_2 (ji42)).f0, wrap64 (((rd_T35 x5_2 (ji42)).f1) + 1), (rd_T35 x5_2 (ji42)).f2, (rd_T35 x5_2 (ji42)).f3⟩ : S35) ) (fun _ hk => hk))); (try (have hx46_1 := hcc46 1 _ rfl)); (try (try simp only [show (k35).sz = 4 from rfl, Nat.mul_one, Nat.add_zero] at hx46_1)); (try (have hf46_1 := hfr46 1)); (try (try simp only [show (k35).sz = 4 from rfl, Nat.mul_one, Nat.add_zero] at hf46_1)); (try (try clear hcl46); (try clear hcc46); (try clear hfr46); (try clear hM46)))); refine store_event (t := 3) (p := 108) (v := ?vo_w47) (w1 := (wc.setCell ⟨go45, ((ji42) : Int).toNat * 4 + 1, none⟩ (.int .i64 (wrap64 (((rd_T35 x5_2 (ji42)).f1) + 1))))) ?hg ?ho ?hn ?hr ?_; (case ho => rfl); (case hg => rfl); (case hn => rfl); (case hr => first | (go_simp; done) | (go_simp; rfl)); intro w47 hw; have hg : wc.grownBy w47 (some go45) := (by rw [hw]; exact HP46.2); have hp_ : Kd.R k35 35 w47 w.heap.size (fun _ => True) (.slice (some ⟨go45, 0, none⟩) x5_2.length co16) y262 := (by rw [hw, Ny262.out]; exact HP46.1); clear HP46; have n0_ := Aside0.mk (hp_); have n1_ := Aside0.mk ((by rw [hw]; exact below_set (HB.out) GB45.out : Below w.heap.size w w47)); clear HO_5; clear HB; have HO_5 := n0_; have HB := n1_; clear n0_ n1_; clear hg hw hp_)); try go_wp2_with (first | ((with_reducible refine gate_store (t := 3) (p := 108) rfl ?_); (try (rw [drewN_self wc]; generalize hq_ : World.drewN wc _ = wc; have n0_ := Aside0.mk (Kd.R_at hq_ HO_5.out); have n1_ := Aside0.mk (below_at hq_ HB.out); clear hq_ HO_5 HB; have HO_5 := n0_; have HB := n1_; clear n0_ n1_; (try (have HX46 := Aside0.mk (show Kd.R k35 35 wc w.heap.size (fun _ => True) (.slice (some ⟨go45, 0, none⟩) x5_2.length co16) x5_2 from (by (with_reducible repeat (first | apply Kd.R_alloc | apply Kd.R_drewN | apply Kd.R_drew)); exact HO_5.out)))); (try (obtain ⟨ce46, hcl46, hM46, hcc46, hfr46⟩ := Kd.R_elem HX46.out z35 ((ji42) : Int) (of_decide_eq_true (by first | (with_reducible assumption) | assumption)) (by have h_ : ((ji42) : Int) < ((x5_2.length : Int) : Int) := of_decide_eq_true (by first | (with_reducible assumption) | assumption); first | exact h_ | (have e_ := (Kd.R_reads' HO_5.out).1; omega) | simpa using h_))); (try (obtain rfl := k35_openM hM46)); (try (have HP46 := Kd.R_seg HX46.out ((ji42) : Int) (of_decide_eq_true (by first | (with_reducible assumption) | assumption)) (by have h_ : ((ji42) : Int) < ((x5_2.length : Int) : Int) := of_decide_eq_true (by first | (with_reducible assumption) | assumption); first | exact h_ | (have e_ := (Kd.R_reads' HO_5.out).1; omega) | simpa using h_) (seg := [.int .i64 (wrap64 (((rd_T35 x5_2 (ji42)).f1) + 1))]) (j := 1) hcl46 hcc46 (show 2 ≤ 4 from by decide) (x' := (⟨(rd_T35 x5_2 (ji42)).f0, wrap64 (((rd_T35 x5_2 (ji42)).f1) + 1), (rd_T35 x5_2 (ji42)).f2, (rd_T35 x5_2 (ji42)).f3⟩ : S35)) (k35_mkM _ _ _ (⟨(rd_T35 x5_2 (ji42)).f0, wrap64 (((rd_T35 x5_2 (ji42)).f1) + 1), (rd_T35 x5_2 (ji42)).f2, (rd_T35 x5_2 (ji42)).f3⟩ : S35) ) (fun _ hk => hk))); (try (have hx46_1 := hcc46 1 _ rfl)); (try (try simp only [show (k35).sz = 4 from rfl, Nat.mul_one, Nat.add_zero] at hx46_1)); (try (have hf46_1 := hfr46 1)); (try (try simp only [show (k35).sz = 4 from rfl, Nat.mul_one, Nat.add_zero] at hf46_1)); (try (try clear hcl46); (try clear hcc46); (try clear hfr46); (try clear hM46)))); refine store_event (t := 3) (p := 108) (v := ?vo_w47) (w1 := (wc.setCell ⟨go45, ((ji42) : Int).toNat * 4 + 1, none⟩ (.int .i64 (wrap64 (((rd_T35 x5_2 (ji42)).f1) + 1))))) ?hg ?ho ?hn ?hr ?_; (case ho => rfl); (case hg => rfl); (case hn => rfl); (case hr => first | (go_simp; done) | (go_simp; rfl)); intro w47 hw; have hg : wc.grownBy w47 (some go45) := (by rw [hw]; exact HP46.2); have hp_ : Kd.R k35 35 w47 w.heap.size (fun _ => True) (.slice (some ⟨go45, 0, none⟩) x5_2.length co16) y262 := (by rw [hw, Ny262.out]; exact HP46.1); clear HP46; have n0_ := Aside0.mk (hp_); have n1_ := Aside0.mk ((by rw [hw]; exact below_set (HB.out) GB45.out : Below w.heap.size w w47)); clear HO_5; clear HB; have HO_5 := n0_; have HB := n1_; clear n0_ n1_; clear hg hw hp_)))
                    go_roundg kj14
                    case measure => have := HK1.out; have := HK2.out; have := HJ14.out; omega
                    case rel => exact ⟨(y262), (wrap64 (x7_2 + 1)), (x8_2), (wrap64 (x9_2 + 1)), (by first | rfl | (simp; done) | (simp [*]; done)), (by first | rfl | (simp; done) | (simp [*]; done)), (by first | rfl | (simp; done) | (simp [*]; done)), (by first | exact H' | (rw [hji18]; exact H')), ⟨by have := HK1.out; have := HK2.out; have := HJ14.out; omega⟩, ⟨by (with_reducible repeat (first | apply Kd.R_alloc | apply Kd.R_drewN | apply Kd.R_drew)); exact HO_5.out⟩, ⟨by repeat (first | (with_reducible first | exact HB.out | apply below_alloc | apply pw_below_drewN | apply below_drew1) | exact HB.out)⟩⟩
                   ·rw [if_neg c44] at H
                    exact absurd H (by simp)
                  ·rw [if_neg c43] at H
                   exact absurd H (by simp)
                 ·rw [if_neg c41] at H
                  have c41b0 : (((rd_T46 ((rd_T39 l0 x6_1).f4) x9_2).f0) == 45) = false := beq_eq_false_iff_ne.mpr c41
                  have c41b1 : (((rd_T46 ((rd_T39 l0 x6_1).f4) x9_2).f0) != 45) = true := bne_iff_ne.mpr c41
                  obtain ⟨ji48, hji48⟩ : ∃ j_ : Int, (wrap64 ((x5_2.length : Int) - 1)) = j_ := ⟨_, rfl⟩
                  replace H : (if 0 ≤ (ji48) then (if (ji48) < (x5_2.length : Int) then (redlineref11_Changes.l1 kj14 l0 (x5_2.set ((ji48) : Int).toNat (⟨(rd_T35 x5_2 (ji48)).f0, (rd_T35 x5_2 (ji48)).f1, (rd_T35 x5_2 (ji48)).f2, wrap64 (((rd_T35 x5_2 (ji48)).f3) + 1)⟩ : S35)) x6_1 x7_2 (wrap64 (x8_2 + 1)) (wrap64 (x9_2 + 1))) else (none)) else (none)) = some (r1, r2) := by first | (rw [hji48] at H; exact H) | (simp only [hji48] at H ⊢; exact H)
                  have hji48w : (IntKind.i64.wrap ((x5_2.length : Int) - 1)) = ji48 := (i64_w _).trans hji48
                  by_cases c49 : 0 ≤ (ji48)
                  ·rw [if_pos c49] at H
                   have c49b0 : decide (0 ≤ (ji48)) = true := decide_eq_true c49
                   clear c49
                   by_cases c50 : (ji48) < (x5_2.length : Int)
                   ·rw [if_pos c50] at H
                    have c50b0 : decide ((ji48) < (x5_2.length : Int)) = true := decide_eq_true c50
                    clear c50
                    obtain ⟨y264, hy264⟩ : ∃ y_ : List (S35), y_ = (x5_2.set ((ji48) : Int).toNat (⟨(rd_T35 x5_2 (ji48)).f0, (rd_T35 x5_2 (ji48)).f1, (rd_T35 x5_2 (ji48)).f2, wrap64 (((rd_T35 x5_2 (ji48)).f3) + 1)⟩ : S35)) := ⟨_, rfl⟩
                    replace H : (redlineref11_Changes.l1 kj14 l0 y264 x6_1 x7_2 (wrap64 (x8_2 + 1)) (wrap64 (x9_2 + 1))) = some (r1, r2) := by first | (rw [hy264]; with_reducible exact H) | (have H2_ := (Option.bind_some _ _).symm.trans H; rw [hy264]; with_reducible exact H2_) | (have H2_ := (Option.bind_some _ _).symm.trans H; with_reducible exact H2_) | with_reducible exact H | (rw [hy264]; exact H) | exact H
                    have Ny264 := Aside0.mk hy264
                    clear hy264
                    have H' := Aside0.mk H
                    clear H
                    have p263 : 0 ≤ ((ji48) : Int) := of_decide_eq_true (by first | (with_reducible assumption) | assumption)
                    have q263 : (ji48) < (x5_2.length : Int) := of_decide_eq_true (by first | (with_reducible assumption) | assumption)
                    obtain ⟨ad263, e263, hx263_0, hx263_1, hx263_2, hx263_3⟩ := at_T35 (Kd.R_reads' HO_5.out).2.2 (ji48) p263 q263
                    cases e263
                    replace p263 := eq_true p263
                    replace q263 := eq_true q263
                    have p51 : 0 ≤ ((ji48) : Int) := of_decide_eq_true (by first | (with_reducible assumption) | assumption)
                    have q51 : ((ji48) : Int) < ((x5_2.length : Int) : Int) := of_decide_eq_true (by first | (with_reducible assumption) | assumption)
                    obtain ⟨go51, co51, eo51, gb51, gl51, cl51, HG51⟩ := Kd.R_form HO_5.out (by omega)
                    (first | cases eo51 | (injection eo51 with ea_ en_ ec_; (first | subst ea_ | (injection ea_ with ea_; subst ea_)); subst ec_; clear en_))
                    have GB51 := Aside0.mk gb51
                    have GG51 := Aside0.mk HG51
                    clear gb51 gl51 HG51
                    (first | simp only [add_plain] at hx263_0 | skip)
                    (first | simp only [add_plain] at hx263_1 | skip)
                    (first | simp only [add_plain] at hx263_2 | skip)
                    (first | simp only [add_plain] at hx263_3 | skip)
                    obtain ⟨ce51, hcl51, hM51, hcc51, hfr51⟩ := Kd.R_elem HO_5.out z35 ((ji48) : Int) p51 q51
                    obtain rfl := k35_openM hM51
                    have hx51_0 : wc.cell? ⟨go51, ((ji48) : Int).toNat * 4, none⟩ = some (.int .i64 ((rd_T35 x5_2 (ji48)).f0)) := hcc51 0 _ rfl
                    have hx51_1 : wc.cell? ⟨go51, ((ji48) : Int).toNat * 4 + 1, none⟩ = some (.int .i64 ((rd_T35 x5_2 (ji48)).f1)) := hcc51 1 _ rfl
                    have hx51_2 : wc.cell? ⟨go51, ((ji48) : Int).toNat * 4 + 2, none⟩ = some (.int .i64 ((rd_T35 x5_2 (ji48)).f2)) := hcc51 2 _ rfl
                    have hx51_3 : wc.cell? ⟨go51, ((ji48) : Int).toNat * 4 + 3, none⟩ = some (.int .i64 ((rd_T35 x5_2 (ji48)).f3)) := hcc51 3 _ rfl
                    have hf51_0 : wc.frozen? ⟨go51, ((ji48) : Int).toNat * 4, none⟩ = false := hfr51 0
                    have hf51_1 : wc.frozen? ⟨go51, ((ji48) : Int).toNat * 4 + 1, none⟩ = false := hfr51 1
                    have hf51_2 : wc.frozen? ⟨go51, ((ji48) : Int).toNat * 4 + 2, none⟩ = false := hfr51 2
                    have hf51_3 : wc.frozen? ⟨go51, ((ji48) : Int).toNat * 4 + 3, none⟩ = false := hfr51 3
                    (try clear hcl51); (try clear hcc51); (try clear hfr51); (try clear hM51)
                    replace p51 := eq_true p51
                    replace q51 := eq_true q51
                    have HX52 := Aside0.mk (show Kd.R k35 35 wc w.heap.size (fun _ => True) (.slice (some ⟨go51, 0, none⟩) x5_2.length co16) x5_2 from (by (with_reducible repeat (first | apply Kd.R_alloc | apply Kd.R_drewN | apply Kd.R_drew)); exact HO_5.out))
                    obtain ⟨ce52, hcl52, hM52, hcc52, hfr52⟩ := Kd.R_elem HX52.out z35 ((ji48) : Int) (of_decide_eq_true (by first | (with_reducible assumption) | assumption)) (by have h_ : ((ji48) : Int) < ((x5_2.length : Int) : Int) := of_decide_eq_true (by first | (with_reducible assumption) | assumption); first | exact h_ | (have e_ := (Kd.R_reads' HO_5.out).1; omega) | simpa using h_)
                    obtain rfl := k35_openM hM52
                    have HP52 := Kd.R_seg HX52.out ((ji48) : Int) (of_decide_eq_true (by first | (with_reducible assumption) | assumption)) (by have h_ : ((ji48) : Int) < ((x5_2.length : Int) : Int) := of_decide_eq_true (by first | (with_reducible assumption) | assumption); first | exact h_ | (have e_ := (Kd.R_reads' HO_5.out).1; omega) | simpa using h_) (seg := [.int .i64 (wrap64 (((rd_T35 x5_2 (ji48)).f3) + 1))]) (j := 3) hcl52 hcc52 (show 4 ≤ 4 from by decide) (x' := (⟨(rd_T35 x5_2 (ji48)).f0, (rd_T35 x5_2 (ji48)).f1, (rd_T35 x5_2 (ji48)).f2, wrap64 (((rd_T35 x5_2 (ji48)).f3) + 1)⟩ : S35)) (k35_mkM _ _ _ (⟨(rd_T35 x5_2 (ji48)).f0, (rd_T35 x5_2 (ji48)).f1, (rd_T35 x5_2 (ji48)).f2, wrap64 (((rd_T35 x5_2 (ji48)).f3) + 1)⟩ : S35) ) (fun _ hk => hk)
                    have hx52_3 := hcc52 3 _ rfl
                    (try simp only [show (k35).sz = 4 from rfl, Nat.mul_one, Nat.add_zero] at hx52_3)
                    have hf52_3 := hfr52 3
                    (try simp only [show (k35).sz = 4 from rfl, Nat.mul_one, Nat.add_zero] at hf52_3)
                    (try clear hcl52); (try clear hcc52); (try clear hfr52); (try clear hM52)
                    go_wp2_with (first | ((with_reducible refine gate_store (t := 3) (p := 118) rfl ?_); (try (rw [drewN_self wc]; generalize hq_ : World.drewN wc _ = wc; have n0_ := Aside0.mk (Kd.R_at hq_ HO_5.out); have n1_ := Aside0.mk (below_at hq_ HB.out); clear hq_ HO_5 HB; have HO_5 := n0_; have HB := n1_; clear n0_ n1_; (try (have HX52 := Aside0.mk (show Kd.R k35 35 wc w.heap.size (fun _ => True) (.slice (some ⟨go51, 0, none⟩) x5_2.length co16) x5_2 from (by (with_reducible repeat (first | apply Kd.R_alloc | apply Kd.R_drewN | apply Kd.R_drew)); exact HO_5.out)))); (try (obtain ⟨ce52, hcl52, hM52, hcc52, hfr52⟩ := Kd.R_elem HX52.out z35 ((ji48) : Int) (of_decide_eq_true (by first | (with_reducible assumption) | assumption)) (by have h_ : ((ji48) : Int) < ((x5_2.length : Int) : Int) := of_decide_eq_true (by first | (with_reducible assumption) | assumption); first | exact h_ | (have e_ := (Kd.R_reads' HO_5.out).1; omega) | simpa using h_))); (try (obtain rfl := k35_openM hM52)); (try (have HP52 := Kd.R_seg HX52.out ((ji48) : Int) (of_decide_eq_true (by first | (with_reducible assumption) | assumption)) (by have h_ : ((ji48) : Int) < ((x5_2.length : Int) : Int) := of_decide_eq_true (by first | (with_reducible assumption) | assumption); first | exact h_ | (have e_ := (Kd.R_reads' HO_5.out).1; omega) | simpa using h_) (seg := [.int .i64 (wrap64 (((rd_T35 x5_2 (ji48)).f3) + 1))]) (j := 3) hcl52 hcc52 (show 4 ≤ 4 from by decide) (x' := (⟨(rd_T35 x5_2 (ji48)).f0, (rd_T35 x5_2 (ji48)).f1, (rd_T35 x5_2 (ji48)).f2, wrap64 (((rd_T35 x5_2 (ji48)).f3) + 1)⟩ : S35)) (k35_mkM _ _ _ (⟨(rd_T35 x5_2 (ji48)).f0, (rd_T35 x5_2 (ji48)).f1, (rd_T35 x5_2 (ji48)).f2, wrap64 (((rd_T35 x5_2 (ji48)).f3) + 1)⟩ : S35) ) (fun _ hk => hk))); (try (have hx52_3 := hcc52 3 _ rfl)); (try (try simp only [show (k35).sz = 4 from rfl, Nat.mul_one, Nat.add_zero] at hx52_3)); (try (have hf52_3 := hfr52 3)); (try (try simp only [show (k35).sz = 4 from rfl, Nat.mul_one, Nat.add_zero] at hf52_3)); (try (try clear hcl52); (try clear hcc52); (try clear hfr52); (try clear hM52)))); refine store_event (t := 3) (p := 118) (v := ?vo_w53) (w1 := (wc.setCell ⟨go51, ((ji48) : Int).toNat * 4 + 3, none⟩ (.int .i64 (wrap64 (((rd_T35 x5_2 (ji48)).f3) + 1))))) ?hg ?ho ?hn ?hr ?_; (case ho => rfl); (case hg => rfl); (case hn => rfl); (case hr => first | (go_simp; done) | (go_simp; rfl)); intro w53 hw; have hg : wc.grownBy w53 (some go51) := (by rw [hw]; exact HP52.2); have hp_ : Kd.R k35 35 w53 w.heap.size (fun _ => True) (.slice (some ⟨go51, 0, none⟩) x5_2.length co16) y264 := (by rw [hw, Ny264.out]; exact HP52.1); clear HP52; have n0_ := Aside0.mk (hp_); have n1_ := Aside0.mk ((by rw [hw]; exact below_set (HB.out) GB51.out : Below w.heap.size w w53)); clear HO_5; clear HB; have HO_5 := n0_; have HB := n1_; clear n0_ n1_; clear hg hw hp_))
                    repeat (go_quiet (first | ((with_reducible refine gate_store (t := 3) (p := 118) rfl ?_); (try (rw [drewN_self wc]; generalize hq_ : World.drewN wc _ = wc; have n0_ := Aside0.mk (Kd.R_at hq_ HO_5.out); have n1_ := Aside0.mk (below_at hq_ HB.out); clear hq_ HO_5 HB; have HO_5 := n0_; have HB := n1_; clear n0_ n1_; (try (have HX52 := Aside0.mk (show Kd.R k35 35 wc w.heap.size (fun _ => True) (.slice (some ⟨go51, 0, none⟩) x5_2.length co16) x5_2 from (by (with_reducible repeat (first | apply Kd.R_alloc | apply Kd.R_drewN | apply Kd.R_drew)); exact HO_5.out)))); (try (obtain ⟨ce52, hcl52, hM52, hcc52, hfr52⟩ := Kd.R_elem HX52.out z35 ((ji48) : Int) (of_decide_eq_true (by first | (with_reducible assumption) | assumption)) (by have h_ : ((ji48) : Int) < ((x5_2.length : Int) : Int) := of_decide_eq_true (by first | (with_reducible assumption) | assumption); first | exact h_ | (have e_ := (Kd.R_reads' HO_5.out).1; omega) | simpa using h_))); (try (obtain rfl := k35_openM hM52)); (try (have HP52 := Kd.R_seg HX52.out ((ji48) : Int) (of_decide_eq_true (by first | (with_reducible assumption) | assumption)) (by have h_ : ((ji48) : Int) < ((x5_2.length : Int) : Int) := of_decide_eq_true (by first | (with_reducible assumption) | assumption); first | exact h_ | (have e_ := (Kd.R_reads' HO_5.out).1; omega) | simpa using h_) (seg := [.int .i64 (wrap64 (((rd_T35 x5_2 (ji48)).f3) + 1))]) (j := 3) hcl52 hcc52 (show 4 ≤ 4 from by decide) (x' := (⟨(rd_T35 x5_2 (ji48)).f0, (rd_T35 x5_2 (ji48)).f1, (rd_T35 x5_2 (ji48)).f2, wrap64 (((rd_T35 x5_2 (ji48)).f3) + 1)⟩ : S35)) (k35_mkM _ _ _ (⟨(rd_T35 x5_2 (ji48)).f0, (rd_T35 x5_2 (ji48)).f1, (rd_T35 x5_2 (ji48)).f2, wrap64 (((rd_T35 x5_2 (ji48)).f3) + 1)⟩ : S35) ) (fun _ hk => hk))); (try (have hx52_3 := hcc52 3 _ rfl)); (try (try simp only [show (k35).sz = 4 from rfl, Nat.mul_one, Nat.add_zero] at hx52_3)); (try (have hf52_3 := hfr52 3)); (try (try simp only [show (k35).sz = 4 from rfl, Nat.mul_one, Nat.add_zero] at hf52_3)); (try (try clear hcl52); (try clear hcc52); (try clear hfr52); (try clear hM52)))); refine store_event (t := 3) (p := 118) (v := ?vo_w53) (w1 := (wc.setCell ⟨go51, ((ji48) : Int).toNat * 4 + 3, none⟩ (.int .i64 (wrap64 (((rd_T35 x5_2 (ji48)).f3) + 1))))) ?hg ?ho ?hn ?hr ?_; (case ho => rfl); (case hg => rfl); (case hn => rfl); (case hr => first | (go_simp; done) | (go_simp; rfl)); intro w53 hw; have hg : wc.grownBy w53 (some go51) := (by rw [hw]; exact HP52.2); have hp_ : Kd.R k35 35 w53 w.heap.size (fun _ => True) (.slice (some ⟨go51, 0, none⟩) x5_2.length co16) y264 := (by rw [hw, Ny264.out]; exact HP52.1); clear HP52; have n0_ := Aside0.mk (hp_); have n1_ := Aside0.mk ((by rw [hw]; exact below_set (HB.out) GB51.out : Below w.heap.size w w53)); clear HO_5; clear HB; have HO_5 := n0_; have HB := n1_; clear n0_ n1_; clear hg hw hp_)); try go_wp2_with (first | ((with_reducible refine gate_store (t := 3) (p := 118) rfl ?_); (try (rw [drewN_self wc]; generalize hq_ : World.drewN wc _ = wc; have n0_ := Aside0.mk (Kd.R_at hq_ HO_5.out); have n1_ := Aside0.mk (below_at hq_ HB.out); clear hq_ HO_5 HB; have HO_5 := n0_; have HB := n1_; clear n0_ n1_; (try (have HX52 := Aside0.mk (show Kd.R k35 35 wc w.heap.size (fun _ => True) (.slice (some ⟨go51, 0, none⟩) x5_2.length co16) x5_2 from (by (with_reducible repeat (first | apply Kd.R_alloc | apply Kd.R_drewN | apply Kd.R_drew)); exact HO_5.out)))); (try (obtain ⟨ce52, hcl52, hM52, hcc52, hfr52⟩ := Kd.R_elem HX52.out z35 ((ji48) : Int) (of_decide_eq_true (by first | (with_reducible assumption) | assumption)) (by have h_ : ((ji48) : Int) < ((x5_2.length : Int) : Int) := of_decide_eq_true (by first | (with_reducible assumption) | assumption); first | exact h_ | (have e_ := (Kd.R_reads' HO_5.out).1; omega) | simpa using h_))); (try (obtain rfl := k35_openM hM52)); (try (have HP52 := Kd.R_seg HX52.out ((ji48) : Int) (of_decide_eq_true (by first | (with_reducible assumption) | assumption)) (by have h_ : ((ji48) : Int) < ((x5_2.length : Int) : Int) := of_decide_eq_true (by first | (with_reducible assumption) | assumption); first | exact h_ | (have e_ := (Kd.R_reads' HO_5.out).1; omega) | simpa using h_) (seg := [.int .i64 (wrap64 (((rd_T35 x5_2 (ji48)).f3) + 1))]) (j := 3) hcl52 hcc52 (show 4 ≤ 4 from by decide) (x' := (⟨(rd_T35 x5_2 (ji48)).f0, (rd_T35 x5_2 (ji48)).f1, (rd_T35 x5_2 (ji48)).f2, wrap64 (((rd_T35 x5_2 (ji48)).f3) + 1)⟩ : S35)) (k35_mkM _ _ _ (⟨(rd_T35 x5_2 (ji48)).f0, (rd_T35 x5_2 (ji48)).f1, (rd_T35 x5_2 (ji48)).f2, wrap64 (((rd_T35 x5_2 (ji48)).f3) + 1)⟩ : S35) ) (fun _ hk => hk))); (try (have hx52_3 := hcc52 3 _ rfl)); (try (try simp only [show (k35).sz = 4 from rfl, Nat.mul_one, Nat.add_zero] at hx52_3)); (try (have hf52_3 := hfr52 3)); (try (try simp only [show (k35).sz = 4 from rfl, Nat.mul_one, Nat.add_zero] at hf52_3)); (try (try clear hcl52); (try clear hcc52); (try clear hfr52); (try clear hM52)))); refine store_event (t := 3) (p := 118) (v := ?vo_w53) (w1 := (wc.setCell ⟨go51, ((ji48) : Int).toNat * 4 + 3, none⟩ (.int .i64 (wrap64 (((rd_T35 x5_2 (ji48)).f3) + 1))))) ?hg ?ho ?hn ?hr ?_; (case ho => rfl); (case hg => rfl); (case hn => rfl); (case hr => first | (go_simp; done) | (go_simp; rfl)); intro w53 hw; have hg : wc.grownBy w53 (some go51) := (by rw [hw]; exact HP52.2); have hp_ : Kd.R k35 35 w53 w.heap.size (fun _ => True) (.slice (some ⟨go51, 0, none⟩) x5_2.length co16) y264 := (by rw [hw, Ny264.out]; exact HP52.1); clear HP52; have n0_ := Aside0.mk (hp_); have n1_ := Aside0.mk ((by rw [hw]; exact below_set (HB.out) GB51.out : Below w.heap.size w w53)); clear HO_5; clear HB; have HO_5 := n0_; have HB := n1_; clear n0_ n1_; clear hg hw hp_)))
                    go_roundg kj14
                    case measure => have := HK1.out; have := HK2.out; have := HJ14.out; omega
                    case rel => exact ⟨(y264), (x7_2), (wrap64 (x8_2 + 1)), (wrap64 (x9_2 + 1)), (by first | rfl | (simp; done) | (simp [*]; done)), (by first | rfl | (simp; done) | (simp [*]; done)), (by first | rfl | (simp; done) | (simp [*]; done)), (by first | exact H' | (rw [hji18]; exact H')), ⟨by have := HK1.out; have := HK2.out; have := HJ14.out; omega⟩, ⟨by (with_reducible repeat (first | apply Kd.R_alloc | apply Kd.R_drewN | apply Kd.R_drew)); exact HO_5.out⟩, ⟨by repeat (first | (with_reducible first | exact HB.out | apply below_alloc | apply pw_below_drewN | apply below_drew1) | exact HB.out)⟩⟩
                   ·rw [if_neg c50] at H
                    exact absurd H (by simp)
                  ·rw [if_neg c49] at H
                   exact absurd H (by simp)
            ·rw [if_neg c12] at H
             exact absurd H (by simp)
           ·rw [if_neg c11] at H
            have c11b0 : decide (x9_2 < (((rd_T39 l0 x6_1).f4).length : Int)) = false := decide_eq_false c11
            clear c11
            have H' := Aside0.mk H
            clear H
            have p247 : 0 ≤ (x6_1 : Int) := of_decide_eq_true (by first | (with_reducible assumption) | assumption)
            have q247 : x6_1 < (l0.length : Int) := of_decide_eq_true (by first | (with_reducible assumption) | assumption)
            obtain ⟨ad247, A247_4, c247_4, e247, hx247_0, hx247_1, hx247_2, hx247_3, hx247_4, hl247_4, hi247_4⟩ := at_T39 HR0.out x6_1 p247 q247
            obtain rfl : ad244 = ad247 := (by injection e247)
            replace hx247_0 := (HB.out.cell (World.block_lt_of_cell? w _ hx247_0)).trans hx247_0
            replace hx247_1 := (HB.out.cell (World.block_lt_of_cell? w _ hx247_1)).trans hx247_1
            replace hx247_2 := (HB.out.cell (World.block_lt_of_cell? w _ hx247_2)).trans hx247_2
            replace hx247_3 := (HB.out.cell (World.block_lt_of_cell? w _ hx247_3)).trans hx247_3
            replace hx247_4 := (HB.out.cell (World.block_lt_of_cell? w _ hx247_4)).trans hx247_4
            have HR247_4 := Aside0.mk hi247_4
            have HC247_4 := Aside0.mk hl247_4
            clear hi247_4 hl247_4
            replace p247 := eq_true p247
            replace q247 := eq_true q247
            go_wp2
            repeat (go_quiet (fail); try go_wp2)
            go_roundg k2
            case measure => have := HK1.out; have := HK2.out; omega
            case rel => exact ⟨(x5_2), (wrap64 (x6_1 + 1)), (by first | rfl | (simp; done) | (simp [*]; done)), (by first | exact H' | (rw [hji18]; exact H')), ⟨by have := HK1.out; have := HK2.out; omega⟩, ⟨by (with_reducible repeat (first | apply Kd.R_alloc | apply Kd.R_drewN | apply Kd.R_drew)); exact HO_5.out⟩, ⟨by repeat (first | (with_reducible first | exact HB.out | apply below_alloc | apply pw_below_drewN | apply below_drew1) | exact HB.out)⟩⟩
          ·rw [if_neg c10] at H
           exact absurd H (by simp)
         ·rw [if_neg c9] at H
          exact absurd H (by simp)
      ·rw [if_neg c6] at H
       exact absurd H (by simp)
     ·rw [if_neg c5] at H
      have c5b0 : decide (x6_1 < (l0.length : Int)) = false := decide_eq_false c5
      clear c5
      simp only [Option.some.injEq, Prod.mk.injEq] at H
      obtain ⟨rfl, rfl⟩ := H
      go_wp2
      repeat (go_quiet (fail); try go_wp2)
      go_ret2
      exact ⟨_, by first | rfl | (simp [errW_none, errW_some] <;> rfl) | (simp [*, errW_none, errW_some] <;> rfl), by (with_reducible repeat (first | apply Kd.R_alloc | apply Kd.R_drewN | apply Kd.R_drew)); exact HO_5.out, by repeat (first | (with_reducible first | exact HB.out | apply below_alloc | apply pw_below_drewN | apply below_drew1) | exact HB.out)⟩
  ·rw [if_neg c3] at H
   have c3b0 : (t243 == 0) = false := beq_eq_false_iff_ne.mpr c3
   have c3b1 : (t243 != 0) = true := bne_iff_ne.mpr c3
   simp only [Option.some.injEq, Prod.mk.injEq] at H
   obtain ⟨rfl, rfl⟩ := H
   go_enter Try.func24, Try.ntmps24
   go_wp2_with (first | (go_at_call 26; (with_reducible refine (redlineref11_Order.calls k _ _ l0 t243 _ ?side1 ?side2 A2.out).mono ?_); (case side1 => repeat (first | exact HR0.out | (with_reducible refine Kd.C_alloc ?_ _) | (with_reducible refine Kd.C_drewN ?_ _) | (with_reducible refine Kd.C_drew ?_))); (case side2 => exact HC0.out); rintro e w54 ⟨rfl, hb⟩; have n0_ := Aside0.mk (below_step (by repeat (first | (with_reducible first | exact HB.out | apply below_alloc | apply pw_below_drewN | apply below_drew1) | exact HB.out)) hb); clear HB; have HB := n0_; clear n0_; (try clear hb); (try clear hb2); (try clear hk); (try clear hi)))
   repeat (go_quiet (first | (go_at_call 26; (with_reducible refine (redlineref11_Order.calls k _ _ l0 t243 _ ?side1 ?side2 A2.out).mono ?_); (case side1 => repeat (first | exact HR0.out | (with_reducible refine Kd.C_alloc ?_ _) | (with_reducible refine Kd.C_drewN ?_ _) | (with_reducible refine Kd.C_drew ?_))); (case side2 => exact HC0.out); rintro e w54 ⟨rfl, hb⟩; have n0_ := Aside0.mk (below_step (by repeat (first | (with_reducible first | exact HB.out | apply below_alloc | apply pw_below_drewN | apply below_drew1) | exact HB.out)) hb); clear HB; have HB := n0_; clear n0_; (try clear hb); (try clear hb2); (try clear hk); (try clear hi))); try go_wp2_with (first | (go_at_call 26; (with_reducible refine (redlineref11_Order.calls k _ _ l0 t243 _ ?side1 ?side2 A2.out).mono ?_); (case side1 => repeat (first | exact HR0.out | (with_reducible refine Kd.C_alloc ?_ _) | (with_reducible refine Kd.C_drewN ?_ _) | (with_reducible refine Kd.C_drew ?_))); (case side2 => exact HC0.out); rintro e w54 ⟨rfl, hb⟩; have n0_ := Aside0.mk (below_step (by repeat (first | (with_reducible first | exact HB.out | apply below_alloc | apply pw_below_drewN | apply below_drew1) | exact HB.out)) hb); clear HB; have HB := n0_; clear n0_; (try clear hb); (try clear hb2); (try clear hk); (try clear hi))))
   go_ret2
   exact ⟨_, by first | rfl | (simp [errW_none, errW_some] <;> rfl) | (simp [*, errW_none, errW_some] <;> rfl), by first | exact Kd.R_nil _ _ _ _ _ | exact Kd.N_nil _ _ _ _ _ | exact Kd.V_nil _ _ _ _ _ | exact Kd.Q_nil _ _ _ _ _ | exact Kd.S_nil _ _ _ _ _, by repeat (first | (with_reducible first | exact HB.out | apply below_alloc | apply pw_below_drewN | apply below_drew1) | exact HB.out)⟩
end Go.Proofs.Ytmnajajnbmlihaa.X
