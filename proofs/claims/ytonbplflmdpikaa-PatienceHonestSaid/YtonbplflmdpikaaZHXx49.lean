import Derived.Test.YtonbplflmdpikaaZHXx0
import Derived.Test.YtonbplflmdpikaaZHXx30
import Derived.Test.YtonbplflmdpikaaZHXx40
import Derived.Test.YtonbplflmdpikaaZHXx42
import Derived.Test.YtonbplflmdpikaaZHXx47
import Derived.Test.YtonbplflmdpikaaZHXx48
namespace Go.Proofs.Ytonbplflmdpikaa.X
open Go.RowKit Go.Proofs.YtonbplflmdpikaaW.PrintWords Go.Proofs.YtonbplflmdpikaaW.PrintLast Go.Proofs.YtonbplflmdpikaaW.PrintMore
attribute [local go_sem] max2_int min2_int max_two min_two max_three min_three max_four min_four   -- for this text's walks alone
open Go.Proofs.YtonbplflmdpikaaW.HandWords
set_option linter.unusedVariables false
set_option linter.unusedSimpArgs false
mutual
def redlinelaw07_PatienceHonest.j0 : Nat → List Int → List Int → Bool → Option (Bool)
  | 0, _, _, _ => none
  | k + 1, x0, x1, x21 => if x21 = true then (some true) else ((patience_Diff.f k x0 x1).bind fun bt458 => ((redlinelaw06_Honest.f k bt458.1 x0 x1).bind fun bt462 => ((minimal_Length.f k x0 x1).bind fun bt464 => (if bt458.2 = 0 then (if bt464.2 = 0 then (if bt462.2 = true then (if bt462.1 > bt464.1 then (redlinelaw07_PatienceHonest.j1 k x0 x1 bt458.1 true) else ((redlineref04_SameInts.f k x0 x1).bind fun t466 => (redlinelaw07_PatienceHonest.j1 k x0 x1 bt458.1 (((bt458.1.length : Int) == 0) != t466)))) else (redlinelaw07_PatienceHonest.j1 k x0 x1 bt458.1 true)) else (redlinelaw07_PatienceHonest.j1 k x0 x1 bt458.1 true)) else (redlinelaw07_PatienceHonest.j1 k x0 x1 bt458.1 true)))))
def redlinelaw07_PatienceHonest.j1 : Nat → List Int → List Int → List (S48) → Bool → Option (Bool)
  | 0, _, _, _, _ => none
  | k + 1, x0, x1, x5, x64 => if x64 = true then (some false) else (redlinelaw07_PatienceHonest.l0 k x0 x1 x5 0)
def redlinelaw07_PatienceHonest.l0 : Nat → List Int → List Int → List (S48) → Int → Option (Bool)
  | 0, _, _, _, _ => none
  | k + 1, x0, x1, x5, x11 => if x11 < (x0.length : Int) then (if x11 < (x1.length : Int) then (if 0 ≤ x11 then (if (rd x0 x11) = (rd x1 x11) then (redlinelaw07_PatienceHonest.l0 k x0 x1 x5 (wrap64 (x11 + 1))) else (if (x5.length : Int) = 0 then (some true) else (if 0 < (x5.length : Int) then (some (decide (((rd_T48 x5 0).f0) ≥ x11))) else (none)))) else (none)) else (if (x5.length : Int) = 0 then (some true) else (if 0 < (x5.length : Int) then (some (decide (((rd_T48 x5 0).f0) ≥ x11))) else (none)))) else (if (x5.length : Int) = 0 then (some true) else (if 0 < (x5.length : Int) then (some (decide (((rd_T48 x5 0).f0) ≥ x11))) else (none)))
end
def redlinelaw07_PatienceHonest.f (k : Nat) (l0 : List Int) (l1 : List Int) : Option (Bool) := (redlinelaw07_works.f k).bind fun t457 => (if t457 = true then (if (l0.length : Int) > 400 then (redlinelaw07_PatienceHonest.j0 k l0 l1 true) else (redlinelaw07_PatienceHonest.j0 k l0 l1 (decide ((l1.length : Int) > 400)))) else (some false))
set_option maxHeartbeats 8000000 in
set_option maxRecDepth 100000 in
theorem redlinelaw07_PatienceHonest.calls (k : Nat) (A0 : Option Addr) (c0 : Nat) (l0 : List Int) (A1 : Option Addr) (c1 : Nat) (l1 : List Int) (r : Bool) (w : World) (hr0 : Kd.C (Kd.int .i64) w A0 l0.length l0) (hc0 : l0.length ≤ c0) (hr1 : Kd.C (Kd.int .i64) w A1 l1.length l1) (hc1 : l1.length ≤ c1) (h : redlinelaw07_PatienceHonest.f k l0 l1 = some r) :
    Calls Try.prog 6 #[.slice A0 l0.length c0, .slice A1 l1.length c1] w fun e w' => e = .returned (.bool r) ∧ Below w.heap.size w w' := by
  have HR0 := Aside0.mk hr0
  have HC0 := Aside0.mk hc0
  clear hr0 hc0
  have HR1 := Aside0.mk hr1
  have HC1 := Aside0.mk hc1
  clear hr1 hc1
  have HB := Aside0.mk (Below.refl w.heap.size w)
  have H : ((redlinelaw07_works.f k).bind fun t457 => (if t457 = true then (if (l0.length : Int) > 400 then (redlinelaw07_PatienceHonest.j0 k l0 l1 true) else (redlinelaw07_PatienceHonest.j0 k l0 l1 (decide ((l1.length : Int) > 400)))) else (some false))) = some r := h
  clear h
  replace H := Option.bind_eq_some_iff.mp H
  obtain ⟨t457, A30, H⟩ := H
  replace H : (if t457 = true then (if (l0.length : Int) > 400 then (redlinelaw07_PatienceHonest.j0 k l0 l1 true) else (redlinelaw07_PatienceHonest.j0 k l0 l1 (decide ((l1.length : Int) > 400)))) else (some false)) = some r := H
  have A3 := Aside0.mk A30
  clear A30
  by_cases c4 : t457 = true
  ·subst c4
   have H1 : (if (l0.length : Int) > 400 then (redlinelaw07_PatienceHonest.j0 k l0 l1 true) else (redlinelaw07_PatienceHonest.j0 k l0 l1 (decide ((l1.length : Int) > 400)))) = some r := by rw [if_pos rfl] at H; exact H
   clear H
   have H := H1
   clear H1
   have HC5 := Aside0.mk H
   clear H
   go_enter Try.func6, Try.ntmps6
   go_upto_region 3 with (first | (go_at_call 16; (with_reducible refine (redlinelaw07_works.calls k  true _ A3.out).mono ?_); rintro e w6 ⟨rfl, hb⟩; have n0_ := Aside0.mk (below_step (by repeat (first | (with_reducible first | exact HB.out | apply below_alloc | apply pw_below_drewN | apply below_drew1) | exact HB.out)) hb); clear HB; have HB := n0_; clear n0_; (try clear hb); (try clear hb2); (try clear hk); (try clear hi)))
   repeat (go_quiet (first | (go_at_call 16; (with_reducible refine (redlinelaw07_works.calls k  true _ A3.out).mono ?_); rintro e w6 ⟨rfl, hb⟩; have n0_ := Aside0.mk (below_step (by repeat (first | (with_reducible first | exact HB.out | apply below_alloc | apply pw_below_drewN | apply below_drew1) | exact HB.out)) hb); clear HB; have HB := n0_; clear n0_; (try clear hb); (try clear hb2); (try clear hk); (try clear hi))); go_upto_region 3 with (first | (go_at_call 16; (with_reducible refine (redlinelaw07_works.calls k  true _ A3.out).mono ?_); rintro e w6 ⟨rfl, hb⟩; have n0_ := Aside0.mk (below_step (by repeat (first | (with_reducible first | exact HB.out | apply below_alloc | apply pw_below_drewN | apply below_drew1) | exact HB.out)) hb); clear HB; have HB := n0_; clear n0_; (try clear hb); (try clear hb2); (try clear hk); (try clear hi))))
   (try simp only [Act.put, List.setIfInBounds_toArray, List.set_cons_zero, List.set_cons_succ])
   go_cut [21] (fun v21 wc => ∃ (kq : Nat) (x21_4 : Bool), v21 = .bool x21_4 ∧ Aside0 (redlinelaw07_PatienceHonest.j0 kq l0 l1 x21_4 = some r) ∧ Aside0 (kq ≤ k) ∧ Aside0 (Below w.heap.size w wc))
   case first =>
    have H := HC5.out
    clear HC5
    by_cases c7 : (l0.length : Int) > 400
    ·rw [if_pos c7] at H
     have c7b0 : decide (400 < (l0.length : Int)) = true := decide_eq_true c7
     have c7b1 : decide (400 < l0.length) = true := decide_eq_true (by omega)
     clear c7
     (first | rw [c7b0] | rw [c7b1] | (simp only [i64_w, i32_w]; rw [c7b0]) | skip)
     have H' := Aside0.mk H
     clear H
     go_wp2
     repeat (go_quiet (fail); try go_wp2)
     go_meet
     case rel => exact ⟨_, (true), (by first | rfl | (simp; done) | (simp [*]; done)), H', ⟨by first | omega | exact Nat.le_refl _⟩, ⟨by repeat (first | (with_reducible first | exact HB.out | apply below_alloc | apply pw_below_drewN | apply below_drew1) | exact HB.out)⟩⟩
    ·rw [if_neg c7] at H
     have c7b0 : decide (400 < (l0.length : Int)) = false := decide_eq_false c7
     have c7b1 : decide (400 < l0.length) = false := decide_eq_false (by omega)
     clear c7
     (first | rw [c7b0] | rw [c7b1] | (simp only [i64_w, i32_w]; rw [c7b0]) | skip)
     have H' := Aside0.mk H
     clear H
     go_wp2
     repeat (go_quiet (fail); try go_wp2)
     go_meet
     case rel => exact ⟨_, (decide ((l1.length : Int) > 400)), (by first | rfl | (simp; done) | (simp [*]; done)), H', ⟨by first | omega | exact Nat.le_refl _⟩, ⟨by repeat (first | (with_reducible first | exact HB.out | apply below_alloc | apply pw_below_drewN | apply below_drew1) | exact HB.out)⟩⟩
   case rest =>
    clear HC5
    try clear c1
    try clear p2
    try clear c4
    try clear c6
    try clear c7
    try clear c7b0
    try clear c7b1
    obtain ⟨kq, x21_4, rfl, HA, HJ4, HB⟩ := hcut
    cases kq with
    | zero => exact absurd HA.out (by simp [redlinelaw07_PatienceHonest.j0])
    | succ kj4 =>
     have H := HA.out
     clear HA
     simp only [redlinelaw07_PatienceHonest.j0] at H
     by_cases c8 : x21_4 = true
     ·subst c8
      have H1 : (some true) = some r := by rw [if_pos rfl] at H; exact H
      clear H
      have H := H1
      clear H1
      obtain rfl := Option.some.inj H
      go_wp2
      repeat (go_quiet (fail); try go_wp2)
      go_ret
      exact ⟨by first | rfl | (simp [errW_none, errW_some] <;> rfl) | (simp [*, errW_none, errW_some] <;> rfl), by repeat (first | (with_reducible first | exact HB.out | apply below_alloc | apply pw_below_drewN | apply below_drew1) | exact HB.out)⟩
     ·replace c8 := Bool.eq_false_iff.mpr c8
      subst c8
      have H1 : ((patience_Diff.f kj4 l0 l1).bind fun bt458 => ((redlinelaw06_Honest.f kj4 bt458.1 l0 l1).bind fun bt462 => ((minimal_Length.f kj4 l0 l1).bind fun bt464 => (if bt458.2 = 0 then (if bt464.2 = 0 then (if bt462.2 = true then (if bt462.1 > bt464.1 then (redlinelaw07_PatienceHonest.j1 kj4 l0 l1 bt458.1 true) else ((redlineref04_SameInts.f kj4 l0 l1).bind fun t466 => (redlinelaw07_PatienceHonest.j1 kj4 l0 l1 bt458.1 (((bt458.1.length : Int) == 0) != t466)))) else (redlinelaw07_PatienceHonest.j1 kj4 l0 l1 bt458.1 true)) else (redlinelaw07_PatienceHonest.j1 kj4 l0 l1 bt458.1 true)) else (redlinelaw07_PatienceHonest.j1 kj4 l0 l1 bt458.1 true))))) = some r := by rw [if_neg (show ¬ (false = true) by decide)] at H; exact H
      clear H
      have H := H1
      clear H1
      replace H := Option.bind_eq_some_iff.mp H
      obtain ⟨⟨t458, t459⟩, A90, H⟩ := H
      replace H : ((redlinelaw06_Honest.f kj4 t458 l0 l1).bind fun bt462 => ((minimal_Length.f kj4 l0 l1).bind fun bt464 => (if t459 = 0 then (if bt464.2 = 0 then (if bt462.2 = true then (if bt462.1 > bt464.1 then (redlinelaw07_PatienceHonest.j1 kj4 l0 l1 t458 true) else ((redlineref04_SameInts.f kj4 l0 l1).bind fun t466 => (redlinelaw07_PatienceHonest.j1 kj4 l0 l1 t458 (((t458.length : Int) == 0) != t466)))) else (redlinelaw07_PatienceHonest.j1 kj4 l0 l1 t458 true)) else (redlinelaw07_PatienceHonest.j1 kj4 l0 l1 t458 true)) else (redlinelaw07_PatienceHonest.j1 kj4 l0 l1 t458 true)))) = some r := H
      have A9 := Aside0.mk A90
      clear A90
      replace H := Option.bind_eq_some_iff.mp H
      obtain ⟨⟨t462, t463⟩, A100, H⟩ := H
      replace H : ((minimal_Length.f kj4 l0 l1).bind fun bt464 => (if t459 = 0 then (if bt464.2 = 0 then (if t463 = true then (if t462 > bt464.1 then (redlinelaw07_PatienceHonest.j1 kj4 l0 l1 t458 true) else ((redlineref04_SameInts.f kj4 l0 l1).bind fun t466 => (redlinelaw07_PatienceHonest.j1 kj4 l0 l1 t458 (((t458.length : Int) == 0) != t466)))) else (redlinelaw07_PatienceHonest.j1 kj4 l0 l1 t458 true)) else (redlinelaw07_PatienceHonest.j1 kj4 l0 l1 t458 true)) else (redlinelaw07_PatienceHonest.j1 kj4 l0 l1 t458 true))) = some r := H
      have A10 := Aside0.mk A100
      clear A100
      replace H := Option.bind_eq_some_iff.mp H
      obtain ⟨⟨t464, t465⟩, A110, H⟩ := H
      replace H : (if t459 = 0 then (if t465 = 0 then (if t463 = true then (if t462 > t464 then (redlinelaw07_PatienceHonest.j1 kj4 l0 l1 t458 true) else ((redlineref04_SameInts.f kj4 l0 l1).bind fun t466 => (redlinelaw07_PatienceHonest.j1 kj4 l0 l1 t458 (((t458.length : Int) == 0) != t466)))) else (redlinelaw07_PatienceHonest.j1 kj4 l0 l1 t458 true)) else (redlinelaw07_PatienceHonest.j1 kj4 l0 l1 t458 true)) else (redlinelaw07_PatienceHonest.j1 kj4 l0 l1 t458 true)) = some r := H
      have A11 := Aside0.mk A110
      clear A110
      have HC12 := Aside0.mk H
      clear H
      go_upto_region 8 with (first | (go_at_call 12; (with_reducible refine (patience_Diff.calls kj4 _ _ l0 _ _ l1 t458 t459 _ ?side1 ?side2 ?side3 ?side4 A9.out).mono ?_); (case side1 => repeat (first | exact (Kd.C_below HR0.out HB.out) | (with_reducible refine Kd.C_alloc ?_ _) | (with_reducible refine Kd.C_drewN ?_ _) | (with_reducible refine Kd.C_drew ?_))); (case side2 => exact HC0.out); (case side3 => repeat (first | exact (Kd.C_below HR1.out HB.out) | (with_reducible refine Kd.C_alloc ?_ _) | (with_reducible refine Kd.C_drewN ?_ _) | (with_reducible refine Kd.C_drew ?_))); (case side4 => exact HC1.out); rintro e w13 ⟨v460, rfl, ho0, hb⟩; have n0_ := Aside0.mk (Kd.R_lower ho0 (below_size (by repeat (first | (with_reducible first | exact HB.out | apply below_alloc | apply pw_below_drewN | apply below_drew1) | exact HB.out)))); have n1_ := Aside0.mk (below_step (by repeat (first | (with_reducible first | exact HB.out | apply below_alloc | apply pw_below_drewN | apply below_drew1) | exact HB.out)) hb); clear HB; have HO461 := n0_; have HB := n1_; clear n0_ n1_; (try clear hb); (try clear hb2); (try clear hk); (try clear hi); (try clear ho0); obtain ⟨Ao14, co14, eo14⟩ := Kd.R_slice HO461.out; subst eo14) | (go_at_call 18; (with_reducible refine (redlinelaw06_Honest.calls kj4 _ _ t458 _ _ l0 _ _ l1 t462 t463 _ ?side1 ?side2 ?side3 ?side4 ?side5 ?side6 A10.out).mono ?_); (case side1 => repeat (first | exact (Kd.R_reads' HO461.out).2.2 | (with_reducible refine Kd.C_alloc ?_ _) | (with_reducible refine Kd.C_drewN ?_ _) | (with_reducible refine Kd.C_drew ?_))); (case side2 => exact (Kd.R_reads' HO461.out).2.1); (case side3 => repeat (first | exact (Kd.C_below HR0.out HB.out) | (with_reducible refine Kd.C_alloc ?_ _) | (with_reducible refine Kd.C_drewN ?_ _) | (with_reducible refine Kd.C_drew ?_))); (case side4 => exact HC0.out); (case side5 => repeat (first | exact (Kd.C_below HR1.out HB.out) | (with_reducible refine Kd.C_alloc ?_ _) | (with_reducible refine Kd.C_drewN ?_ _) | (with_reducible refine Kd.C_drew ?_))); (case side6 => exact HC1.out); rintro e w15 ⟨rfl, hb⟩; have n0_ := Aside0.mk (Kd.R_below (by (with_reducible repeat (first | apply Kd.R_alloc | apply Kd.R_drewN | apply Kd.R_drew)); exact HO461.out) hb); have n1_ := Aside0.mk (below_step (by repeat (first | (with_reducible first | exact HB.out | apply below_alloc | apply pw_below_drewN | apply below_drew1) | exact HB.out)) hb); clear HO461; clear HB; have HO461 := n0_; have HB := n1_; clear n0_ n1_; (try clear hb); (try clear hb2); (try clear hk); (try clear hi)) | (go_at_call 19; (with_reducible refine (minimal_Length.calls kj4 _ _ l0 _ _ l1 t464 t465 _ ?side1 ?side2 ?side3 ?side4 A11.out).mono ?_); (case side1 => repeat (first | exact (Kd.C_below HR0.out HB.out) | (with_reducible refine Kd.C_alloc ?_ _) | (with_reducible refine Kd.C_drewN ?_ _) | (with_reducible refine Kd.C_drew ?_))); (case side2 => exact HC0.out); (case side3 => repeat (first | exact (Kd.C_below HR1.out HB.out) | (with_reducible refine Kd.C_alloc ?_ _) | (with_reducible refine Kd.C_drewN ?_ _) | (with_reducible refine Kd.C_drew ?_))); (case side4 => exact HC1.out); rintro e w16 ⟨rfl, hb⟩; have n0_ := Aside0.mk (Kd.R_below (by (with_reducible repeat (first | apply Kd.R_alloc | apply Kd.R_drewN | apply Kd.R_drew)); exact HO461.out) hb); have n1_ := Aside0.mk (below_step (by repeat (first | (with_reducible first | exact HB.out | apply below_alloc | apply pw_below_drewN | apply below_drew1) | exact HB.out)) hb); clear HO461; clear HB; have HO461 := n0_; have HB := n1_; clear n0_ n1_; (try clear hb); (try clear hb2); (try clear hk); (try clear hi)))
      repeat (go_quiet (first | (go_at_call 12; (with_reducible refine (patience_Diff.calls kj4 _ _ l0 _ _ l1 t458 t459 _ ?side1 ?side2 ?side3 ?side4 A9.out).mono ?_); (case side1 => repeat (first | exact (Kd.C_below HR0.out HB.out) | (with_reducible refine Kd.C_alloc ?_ _) | (with_reducible refine Kd.C_drewN ?_ _) | (with_reducible refine Kd.C_drew ?_))); (case side2 => exact HC0.out); (case side3 => repeat (first | exact (Kd.C_below HR1.out HB.out) | (with_reducible refine Kd.C_alloc ?_ _) | (with_reducible refine Kd.C_drewN ?_ _) | (with_reducible refine Kd.C_drew ?_))); (case side4 => exact HC1.out); rintro e w13 ⟨v460, rfl, ho0, hb⟩; have n0_ := Aside0.mk (Kd.R_lower ho0 (below_size (by repeat (first | (with_reducible first | exact HB.out | apply below_alloc | apply pw_below_drewN | apply below_drew1) | exact HB.out)))); have n1_ := Aside0.mk (below_step (by repeat (first | (with_reducible first | exact HB.out | apply below_alloc | apply pw_below_drewN | apply below_drew1) | exact HB.out)) hb); clear HB; have HO461 := n0_; have HB := n1_; clear n0_ n1_; (try clear hb); (try clear hb2); (try clear hk); (try clear hi); (try clear ho0); obtain ⟨Ao14, co14, eo14⟩ := Kd.R_slice HO461.out; subst eo14) | (go_at_call 18; (with_reducible refine (redlinelaw06_Honest.calls kj4 _ _ t458 _ _ l0 _ _ l1 t462 t463 _ ?side1 ?side2 ?side3 ?side4 ?side5 ?side6 A10.out).mono ?_); (case side1 => repeat (first | exact (Kd.R_reads' HO461.out).2.2 | (with_reducible refine Kd.C_alloc ?_ _) | (with_reducible refine Kd.C_drewN ?_ _) | (with_reducible refine Kd.C_drew ?_))); (case side2 => exact (Kd.R_reads' HO461.out).2.1); (case side3 => repeat (first | exact (Kd.C_below HR0.out HB.out) | (with_reducible refine Kd.C_alloc ?_ _) | (with_reducible refine Kd.C_drewN ?_ _) | (with_reducible refine Kd.C_drew ?_))); (case side4 => exact HC0.out); (case side5 => repeat (first | exact (Kd.C_below HR1.out HB.out) | (with_reducible refine Kd.C_alloc ?_ _) | (with_reducible refine Kd.C_drewN ?_ _) | (with_reducible refine Kd.C_drew ?_))); (case side6 => exact HC1.out); rintro e w15 ⟨rfl, hb⟩; have n0_ := Aside0.mk (Kd.R_below (by (with_reducible repeat (first | apply Kd.R_alloc | apply Kd.R_drewN | apply Kd.R_drew)); exact HO461.out) hb); have n1_ := Aside0.mk (below_step (by repeat (first | (with_reducible first | exact HB.out | apply below_alloc | apply pw_below_drewN | apply below_drew1) | exact HB.out)) hb); clear HO461; clear HB; have HO461 := n0_; have HB := n1_; clear n0_ n1_; (try clear hb); (try clear hb2); (try clear hk); (try clear hi)) | (go_at_call 19; (with_reducible refine (minimal_Length.calls kj4 _ _ l0 _ _ l1 t464 t465 _ ?side1 ?side2 ?side3 ?side4 A11.out).mono ?_); (case side1 => repeat (first | exact (Kd.C_below HR0.out HB.out) | (with_reducible refine Kd.C_alloc ?_ _) | (with_reducible refine Kd.C_drewN ?_ _) | (with_reducible refine Kd.C_drew ?_))); (case side2 => exact HC0.out); (case side3 => repeat (first | exact (Kd.C_below HR1.out HB.out) | (with_reducible refine Kd.C_alloc ?_ _) | (with_reducible refine Kd.C_drewN ?_ _) | (with_reducible refine Kd.C_drew ?_))); (case side4 => exact HC1.out); rintro e w16 ⟨rfl, hb⟩; have n0_ := Aside0.mk (Kd.R_below (by (with_reducible repeat (first | apply Kd.R_alloc | apply Kd.R_drewN | apply Kd.R_drew)); exact HO461.out) hb); have n1_ := Aside0.mk (below_step (by repeat (first | (with_reducible first | exact HB.out | apply below_alloc | apply pw_below_drewN | apply below_drew1) | exact HB.out)) hb); clear HO461; clear HB; have HO461 := n0_; have HB := n1_; clear n0_ n1_; (try clear hb); (try clear hb2); (try clear hk); (try clear hi))); go_upto_region 8 with (first | (go_at_call 12; (with_reducible refine (patience_Diff.calls kj4 _ _ l0 _ _ l1 t458 t459 _ ?side1 ?side2 ?side3 ?side4 A9.out).mono ?_); (case side1 => repeat (first | exact (Kd.C_below HR0.out HB.out) | (with_reducible refine Kd.C_alloc ?_ _) | (with_reducible refine Kd.C_drewN ?_ _) | (with_reducible refine Kd.C_drew ?_))); (case side2 => exact HC0.out); (case side3 => repeat (first | exact (Kd.C_below HR1.out HB.out) | (with_reducible refine Kd.C_alloc ?_ _) | (with_reducible refine Kd.C_drewN ?_ _) | (with_reducible refine Kd.C_drew ?_))); (case side4 => exact HC1.out); rintro e w13 ⟨v460, rfl, ho0, hb⟩; have n0_ := Aside0.mk (Kd.R_lower ho0 (below_size (by repeat (first | (with_reducible first | exact HB.out | apply below_alloc | apply pw_below_drewN | apply below_drew1) | exact HB.out)))); have n1_ := Aside0.mk (below_step (by repeat (first | (with_reducible first | exact HB.out | apply below_alloc | apply pw_below_drewN | apply below_drew1) | exact HB.out)) hb); clear HB; have HO461 := n0_; have HB := n1_; clear n0_ n1_; (try clear hb); (try clear hb2); (try clear hk); (try clear hi); (try clear ho0); obtain ⟨Ao14, co14, eo14⟩ := Kd.R_slice HO461.out; subst eo14) | (go_at_call 18; (with_reducible refine (redlinelaw06_Honest.calls kj4 _ _ t458 _ _ l0 _ _ l1 t462 t463 _ ?side1 ?side2 ?side3 ?side4 ?side5 ?side6 A10.out).mono ?_); (case side1 => repeat (first | exact (Kd.R_reads' HO461.out).2.2 | (with_reducible refine Kd.C_alloc ?_ _) | (with_reducible refine Kd.C_drewN ?_ _) | (with_reducible refine Kd.C_drew ?_))); (case side2 => exact (Kd.R_reads' HO461.out).2.1); (case side3 => repeat (first | exact (Kd.C_below HR0.out HB.out) | (with_reducible refine Kd.C_alloc ?_ _) | (with_reducible refine Kd.C_drewN ?_ _) | (with_reducible refine Kd.C_drew ?_))); (case side4 => exact HC0.out); (case side5 => repeat (first | exact (Kd.C_below HR1.out HB.out) | (with_reducible refine Kd.C_alloc ?_ _) | (with_reducible refine Kd.C_drewN ?_ _) | (with_reducible refine Kd.C_drew ?_))); (case side6 => exact HC1.out); rintro e w15 ⟨rfl, hb⟩; have n0_ := Aside0.mk (Kd.R_below (by (with_reducible repeat (first | apply Kd.R_alloc | apply Kd.R_drewN | apply Kd.R_drew)); exact HO461.out) hb); have n1_ := Aside0.mk (below_step (by repeat (first | (with_reducible first | exact HB.out | apply below_alloc | apply pw_below_drewN | apply below_drew1) | exact HB.out)) hb); clear HO461; clear HB; have HO461 := n0_; have HB := n1_; clear n0_ n1_; (try clear hb); (try clear hb2); (try clear hk); (try clear hi)) | (go_at_call 19; (with_reducible refine (minimal_Length.calls kj4 _ _ l0 _ _ l1 t464 t465 _ ?side1 ?side2 ?side3 ?side4 A11.out).mono ?_); (case side1 => repeat (first | exact (Kd.C_below HR0.out HB.out) | (with_reducible refine Kd.C_alloc ?_ _) | (with_reducible refine Kd.C_drewN ?_ _) | (with_reducible refine Kd.C_drew ?_))); (case side2 => exact HC0.out); (case side3 => repeat (first | exact (Kd.C_below HR1.out HB.out) | (with_reducible refine Kd.C_alloc ?_ _) | (with_reducible refine Kd.C_drewN ?_ _) | (with_reducible refine Kd.C_drew ?_))); (case side4 => exact HC1.out); rintro e w16 ⟨rfl, hb⟩; have n0_ := Aside0.mk (Kd.R_below (by (with_reducible repeat (first | apply Kd.R_alloc | apply Kd.R_drewN | apply Kd.R_drew)); exact HO461.out) hb); have n1_ := Aside0.mk (below_step (by repeat (first | (with_reducible first | exact HB.out | apply below_alloc | apply pw_below_drewN | apply below_drew1) | exact HB.out)) hb); clear HO461; clear HB; have HO461 := n0_; have HB := n1_; clear n0_ n1_; (try clear hb); (try clear hb2); (try clear hk); (try clear hi))))
      (try simp only [Act.put, List.setIfInBounds_toArray, List.set_cons_zero, List.set_cons_succ])
      go_cut [64] (fun v64 wc => ∃ (kq : Nat) (x64_11 : Bool), v64 = .bool x64_11 ∧ Aside0 (redlinelaw07_PatienceHonest.j1 kq l0 l1 t458 x64_11 = some r) ∧ Aside0 (kq ≤ kj4) ∧ Aside0 (Kd.R k48 48 wc w.heap.size (fun _ => True) (.slice Ao14 t458.length co14) t458) ∧ Aside0 (Below w.heap.size w wc))
      case first =>
       have H := HC12.out
       clear HC12
       by_cases c17 : t459 = 0
       ·rw [if_pos c17] at H
        have c17b0 : (t459 == 0) = true := beq_iff_eq.mpr c17
        have c17b1 : (t459 != 0) = false := bne_eq_false_iff_eq.mpr c17
        clear c17
        (first | rw [c17b0] | rw [c17b1] | (simp only [i64_w, i32_w]; rw [c17b0]) | skip)
        by_cases c18 : t465 = 0
        ·rw [if_pos c18] at H
         have c18b0 : (t465 == 0) = true := beq_iff_eq.mpr c18
         have c18b1 : (t465 != 0) = false := bne_eq_false_iff_eq.mpr c18
         clear c18
         by_cases c19 : t463 = true
         ·subst c19
          have H1 : (if t462 > t464 then (redlinelaw07_PatienceHonest.j1 kj4 l0 l1 t458 true) else ((redlineref04_SameInts.f kj4 l0 l1).bind fun t466 => (redlinelaw07_PatienceHonest.j1 kj4 l0 l1 t458 (((t458.length : Int) == 0) != t466)))) = some r := by rw [if_pos rfl] at H; exact H
          clear H
          have H := H1
          clear H1
          by_cases c20 : t462 > t464
          ·rw [if_pos c20] at H
           have c20b0 : decide (t464 < t462) = true := decide_eq_true c20
           clear c20
           have H' := Aside0.mk H
           clear H
           go_wp2
           repeat (go_quiet (fail); try go_wp2)
           go_meet
           case rel => exact ⟨_, (true), (by first | rfl | (simp; done) | (simp [*]; done)), H', ⟨by have := HJ4.out; first | omega | exact Nat.le_refl _⟩, ⟨by (with_reducible repeat (first | apply Kd.R_alloc | apply Kd.R_drewN | apply Kd.R_drew)); exact HO461.out⟩, ⟨by repeat (first | (with_reducible first | exact HB.out | apply below_alloc | apply pw_below_drewN | apply below_drew1) | exact HB.out)⟩⟩
          ·rw [if_neg c20] at H
           have c20b0 : decide (t464 < t462) = false := decide_eq_false c20
           clear c20
           replace H := Option.bind_eq_some_iff.mp H
           obtain ⟨t466, A210, H⟩ := H
           replace H : (redlinelaw07_PatienceHonest.j1 kj4 l0 l1 t458 (((t458.length : Int) == 0) != t466)) = some r := H
           have A21 := Aside0.mk A210
           clear A210
           have H' := Aside0.mk H
           clear H
           go_wp2_with (first | (go_at_call 15; (with_reducible refine (redlineref04_SameInts.calls kj4 _ _ l0 _ _ l1 t466 _ ?side1 ?side2 ?side3 ?side4 A21.out).mono ?_); (case side1 => repeat (first | exact (Kd.C_below HR0.out HB.out) | (with_reducible refine Kd.C_alloc ?_ _) | (with_reducible refine Kd.C_drewN ?_ _) | (with_reducible refine Kd.C_drew ?_))); (case side2 => exact HC0.out); (case side3 => repeat (first | exact (Kd.C_below HR1.out HB.out) | (with_reducible refine Kd.C_alloc ?_ _) | (with_reducible refine Kd.C_drewN ?_ _) | (with_reducible refine Kd.C_drew ?_))); (case side4 => exact HC1.out); rintro e w' ⟨rfl, ⟨nd, rfl⟩⟩; (try first | exact ⟨rfl, _, World.drewN_drewN _ _ _⟩ | exact ⟨rfl, _, Eq.trans (World.drewN_drewN _ _ _) (congrArg (World.drewN _) (Nat.add_assoc _ _ _))⟩)))
           repeat (go_quiet (first | (go_at_call 15; (with_reducible refine (redlineref04_SameInts.calls kj4 _ _ l0 _ _ l1 t466 _ ?side1 ?side2 ?side3 ?side4 A21.out).mono ?_); (case side1 => repeat (first | exact (Kd.C_below HR0.out HB.out) | (with_reducible refine Kd.C_alloc ?_ _) | (with_reducible refine Kd.C_drewN ?_ _) | (with_reducible refine Kd.C_drew ?_))); (case side2 => exact HC0.out); (case side3 => repeat (first | exact (Kd.C_below HR1.out HB.out) | (with_reducible refine Kd.C_alloc ?_ _) | (with_reducible refine Kd.C_drewN ?_ _) | (with_reducible refine Kd.C_drew ?_))); (case side4 => exact HC1.out); rintro e w' ⟨rfl, ⟨nd, rfl⟩⟩; (try first | exact ⟨rfl, _, World.drewN_drewN _ _ _⟩ | exact ⟨rfl, _, Eq.trans (World.drewN_drewN _ _ _) (congrArg (World.drewN _) (Nat.add_assoc _ _ _))⟩))); try go_wp2_with (first | (go_at_call 15; (with_reducible refine (redlineref04_SameInts.calls kj4 _ _ l0 _ _ l1 t466 _ ?side1 ?side2 ?side3 ?side4 A21.out).mono ?_); (case side1 => repeat (first | exact (Kd.C_below HR0.out HB.out) | (with_reducible refine Kd.C_alloc ?_ _) | (with_reducible refine Kd.C_drewN ?_ _) | (with_reducible refine Kd.C_drew ?_))); (case side2 => exact HC0.out); (case side3 => repeat (first | exact (Kd.C_below HR1.out HB.out) | (with_reducible refine Kd.C_alloc ?_ _) | (with_reducible refine Kd.C_drewN ?_ _) | (with_reducible refine Kd.C_drew ?_))); (case side4 => exact HC1.out); rintro e w' ⟨rfl, ⟨nd, rfl⟩⟩; (try first | exact ⟨rfl, _, World.drewN_drewN _ _ _⟩ | exact ⟨rfl, _, Eq.trans (World.drewN_drewN _ _ _) (congrArg (World.drewN _) (Nat.add_assoc _ _ _))⟩))))
           go_meet
           case rel => exact ⟨_, ((((t458.length : Int) == 0) != t466)), (by first | rfl | (simp; done) | (simp [*]; done)), H', ⟨by have := HJ4.out; first | omega | exact Nat.le_refl _⟩, ⟨by (with_reducible repeat (first | apply Kd.R_alloc | apply Kd.R_drewN | apply Kd.R_drew)); exact HO461.out⟩, ⟨by repeat (first | (with_reducible first | exact HB.out | apply below_alloc | apply pw_below_drewN | apply below_drew1) | exact HB.out)⟩⟩
         ·replace c19 := Bool.eq_false_iff.mpr c19
          subst c19
          have H1 : (redlinelaw07_PatienceHonest.j1 kj4 l0 l1 t458 true) = some r := by rw [if_neg (show ¬ (false = true) by decide)] at H; exact H
          clear H
          have H := H1
          clear H1
          have H' := Aside0.mk H
          clear H
          go_wp2
          repeat (go_quiet (fail); try go_wp2)
          go_meet
          case rel => exact ⟨_, (true), (by first | rfl | (simp; done) | (simp [*]; done)), H', ⟨by have := HJ4.out; first | omega | exact Nat.le_refl _⟩, ⟨by (with_reducible repeat (first | apply Kd.R_alloc | apply Kd.R_drewN | apply Kd.R_drew)); exact HO461.out⟩, ⟨by repeat (first | (with_reducible first | exact HB.out | apply below_alloc | apply pw_below_drewN | apply below_drew1) | exact HB.out)⟩⟩
        ·rw [if_neg c18] at H
         have c18b0 : (t465 == 0) = false := beq_eq_false_iff_ne.mpr c18
         have c18b1 : (t465 != 0) = true := bne_iff_ne.mpr c18
         have H' := Aside0.mk H
         clear H
         go_wp2
         repeat (go_quiet (fail); try go_wp2)
         go_meet
         case rel => exact ⟨_, (true), (by first | rfl | (simp; done) | (simp [*]; done)), H', ⟨by have := HJ4.out; first | omega | exact Nat.le_refl _⟩, ⟨by (with_reducible repeat (first | apply Kd.R_alloc | apply Kd.R_drewN | apply Kd.R_drew)); exact HO461.out⟩, ⟨by repeat (first | (with_reducible first | exact HB.out | apply below_alloc | apply pw_below_drewN | apply below_drew1) | exact HB.out)⟩⟩
       ·rw [if_neg c17] at H
        have c17b0 : (t459 == 0) = false := beq_eq_false_iff_ne.mpr c17
        have c17b1 : (t459 != 0) = true := bne_iff_ne.mpr c17
        (first | rw [c17b0] | rw [c17b1] | (simp only [i64_w, i32_w]; rw [c17b0]) | skip)
        have H' := Aside0.mk H
        clear H
        go_wp2
        repeat (go_quiet (fail); try go_wp2)
        go_meet
        case rel => exact ⟨_, (true), (by first | rfl | (simp; done) | (simp [*]; done)), H', ⟨by have := HJ4.out; first | omega | exact Nat.le_refl _⟩, ⟨by (with_reducible repeat (first | apply Kd.R_alloc | apply Kd.R_drewN | apply Kd.R_drew)); exact HO461.out⟩, ⟨by repeat (first | (with_reducible first | exact HB.out | apply below_alloc | apply pw_below_drewN | apply below_drew1) | exact HB.out)⟩⟩
      case rest =>
       clear HC12
       try clear c1
       try clear c2
       try clear p2
       try clear c4
       try clear c6
       try clear c7
       try clear c7b0
       try clear c7b1
       try clear c8
       try clear c17
       try clear c17b0
       try clear c17b1
       try clear c18
       try clear c18b0
       try clear c18b1
       try clear c19
       try clear c20
       try clear c20b0
       try clear p2
       obtain ⟨kq, x64_11, rfl, HA, HJ11, HO_5, HB⟩ := hcut
       cases kq with
       | zero => exact absurd HA.out (by simp [redlinelaw07_PatienceHonest.j1])
       | succ kj11 =>
        have H := HA.out
        clear HA
        simp only [redlinelaw07_PatienceHonest.j1] at H
        by_cases c22 : x64_11 = true
        ·subst c22
         have H1 : (some false) = some r := by rw [if_pos rfl] at H; exact H
         clear H
         have H := H1
         clear H1
         obtain rfl := Option.some.inj H
         go_wp2
         repeat (go_quiet (fail); try go_wp2)
         go_ret
         exact ⟨by first | rfl | (simp [errW_none, errW_some] <;> rfl) | (simp [*, errW_none, errW_some] <;> rfl), by repeat (first | (with_reducible first | exact HB.out | apply below_alloc | apply pw_below_drewN | apply below_drew1) | exact HB.out)⟩
        ·replace c22 := Bool.eq_false_iff.mpr c22
         subst c22
         have H1 : (redlinelaw07_PatienceHonest.l0 kj11 l0 l1 t458 0) = some r := by rw [if_neg (show ¬ (false = true) by decide)] at H; exact H
         clear H
         have H := H1
         clear H1
         have H' := Aside0.mk H
         clear H
         go_wp2
         repeat (go_quiet (fail); try go_wp2)
         go_loopg [11] kj11 (fun kq v11 w' => ∃ (x11_3 : Int), v11 = .int .i64 x11_3 ∧ Aside0 (redlinelaw07_PatienceHonest.l0 kq l0 l1 t458 x11_3 = some r) ∧ Aside0 (kq ≤ kj11) ∧ Aside0 (Kd.R k48 48 w' w.heap.size (fun _ => True) (.slice Ao14 t458.length co14) t458) ∧ Aside0 (Below w.heap.size w w'))
         case atStart => exact ⟨(0), (by first | rfl | (simp; done) | (simp [*]; done)), H', ⟨Nat.le_refl _⟩, ⟨by (with_reducible repeat (first | apply Kd.R_alloc | apply Kd.R_drewN | apply Kd.R_drew)); exact HO_5.out⟩, ⟨by repeat (first | (with_reducible first | exact HB.out | apply below_alloc | apply pw_below_drewN | apply below_drew1) | exact HB.out)⟩⟩
         case round =>
          clear H'
          try clear c1
          try clear c2
          try clear p2
          try clear c4
          try clear c6
          try clear c7
          try clear c7b0
          try clear c7b1
          try clear c8
          try clear c17
          try clear c17b0
          try clear c17b1
          try clear c18
          try clear c18b0
          try clear c18b1
          try clear c19
          try clear c20
          try clear c20b0
          try clear c22
          try clear p2
          obtain ⟨x11_3, rfl, HA, HK3, HO_5, HB⟩ := hrel
          cases gk with
          | zero => exact absurd HA.out (by simp [redlinelaw07_PatienceHonest.l0])
          | succ k3 =>
           have H := HA.out
           clear HA
           simp only [redlinelaw07_PatienceHonest.l0] at H
           by_cases c23 : x11_3 < (l0.length : Int)
           ·rw [if_pos c23] at H
            have c23b0 : decide (x11_3 < (l0.length : Int)) = true := decide_eq_true c23
            clear c23
            by_cases c24 : x11_3 < (l1.length : Int)
            ·rw [if_pos c24] at H
             have c24b0 : decide (x11_3 < (l1.length : Int)) = true := decide_eq_true c24
             clear c24
             by_cases c25 : 0 ≤ x11_3
             ·rw [if_pos c25] at H
              have c25b0 : decide (0 ≤ x11_3) = true := decide_eq_true c25
              clear c25
              by_cases c26 : (rd l0 x11_3) = (rd l1 x11_3)
              ·rw [if_pos c26] at H
               have c26b0 : ((rd l0 x11_3) == (rd l1 x11_3)) = true := beq_iff_eq.mpr c26
               have c26b1 : ((rd l0 x11_3) != (rd l1 x11_3)) = false := bne_eq_false_iff_eq.mpr c26
               clear c26
               have H' := Aside0.mk H
               clear H
               have p467 : 0 ≤ (x11_3 : Int) := of_decide_eq_true (by first | (with_reducible assumption) | assumption)
               have q467 : x11_3 < (l0.length : Int) := of_decide_eq_true (by first | (with_reducible assumption) | assumption)
               obtain ⟨ad467, e467, hx467_0⟩ := Kd.at_int HR0.out x11_3 p467 q467
               cases e467
               replace hx467_0 := (HB.out.cell (World.block_lt_of_cell? w _ hx467_0)).trans hx467_0
               replace p467 := eq_true p467
               replace q467 := eq_true q467
               have p468 : 0 ≤ (x11_3 : Int) := of_decide_eq_true (by first | (with_reducible assumption) | assumption)
               have q468 : x11_3 < (l1.length : Int) := of_decide_eq_true (by first | (with_reducible assumption) | assumption)
               obtain ⟨ad468, e468, hx468_0⟩ := Kd.at_int HR1.out x11_3 p468 q468
               cases e468
               replace hx468_0 := (HB.out.cell (World.block_lt_of_cell? w _ hx468_0)).trans hx468_0
               replace p468 := eq_true p468
               replace q468 := eq_true q468
               go_wp2
               repeat (go_quiet (fail); try go_wp2)
               go_roundg k3
               case measure => have := HJ4.out; have := HJ11.out; have := HK3.out; omega
               case rel => exact ⟨(wrap64 (x11_3 + 1)), (by first | rfl | (simp; done) | (simp [*]; done)), H', ⟨by have := HJ4.out; have := HJ11.out; have := HK3.out; omega⟩, ⟨by (with_reducible repeat (first | apply Kd.R_alloc | apply Kd.R_drewN | apply Kd.R_drew)); exact HO_5.out⟩, ⟨by repeat (first | (with_reducible first | exact HB.out | apply below_alloc | apply pw_below_drewN | apply below_drew1) | exact HB.out)⟩⟩
              ·rw [if_neg c26] at H
               have c26b0 : ((rd l0 x11_3) == (rd l1 x11_3)) = false := beq_eq_false_iff_ne.mpr c26
               have c26b1 : ((rd l0 x11_3) != (rd l1 x11_3)) = true := bne_iff_ne.mpr c26
               by_cases c27 : (t458.length : Int) = 0
               ·rw [if_pos c27] at H
                have c27b0 : ((t458.length : Int) == 0) = true := beq_iff_eq.mpr c27
                have c27b1 : ((t458.length : Int) != 0) = false := bne_eq_false_iff_eq.mpr c27
                clear c27
                obtain rfl := Option.some.inj H
                have p467 : 0 ≤ (x11_3 : Int) := of_decide_eq_true (by first | (with_reducible assumption) | assumption)
                have q467 : x11_3 < (l0.length : Int) := of_decide_eq_true (by first | (with_reducible assumption) | assumption)
                obtain ⟨ad467, e467, hx467_0⟩ := Kd.at_int HR0.out x11_3 p467 q467
                cases e467
                replace hx467_0 := (HB.out.cell (World.block_lt_of_cell? w _ hx467_0)).trans hx467_0
                replace p467 := eq_true p467
                replace q467 := eq_true q467
                have p468 : 0 ≤ (x11_3 : Int) := of_decide_eq_true (by first | (with_reducible assumption) | assumption)
                have q468 : x11_3 < (l1.length : Int) := of_decide_eq_true (by first | (with_reducible assumption) | assumption)
                obtain ⟨ad468, e468, hx468_0⟩ := Kd.at_int HR1.out x11_3 p468 q468
                cases e468
                replace hx468_0 := (HB.out.cell (World.block_lt_of_cell? w _ hx468_0)).trans hx468_0
                replace p468 := eq_true p468
                replace q468 := eq_true q468
                go_wp2
                repeat (go_quiet (fail); try go_wp2)
                go_ret
                exact ⟨by first | rfl | (simp [errW_none, errW_some] <;> rfl) | (simp [*, errW_none, errW_some] <;> rfl), by repeat (first | (with_reducible first | exact HB.out | apply below_alloc | apply pw_below_drewN | apply below_drew1) | exact HB.out)⟩
               ·rw [if_neg c27] at H
                have c27b0 : ((t458.length : Int) == 0) = false := beq_eq_false_iff_ne.mpr c27
                have c27b1 : ((t458.length : Int) != 0) = true := bne_iff_ne.mpr c27
                have c27b2 : ¬ (t458 = []) := fun h_ => c27 (by rw [h_]; rfl)
                by_cases c28 : 0 < (t458.length : Int)
                ·rw [if_pos c28] at H
                 have c28b0 : decide (0 < (t458.length : Int)) = true := decide_eq_true c28
                 have c28b1 : decide (0 < t458.length) = true := decide_eq_true (by omega)
                 clear c28
                 obtain rfl := Option.some.inj H
                 have p467 : 0 ≤ (x11_3 : Int) := of_decide_eq_true (by first | (with_reducible assumption) | assumption)
                 have q467 : x11_3 < (l0.length : Int) := of_decide_eq_true (by first | (with_reducible assumption) | assumption)
                 obtain ⟨ad467, e467, hx467_0⟩ := Kd.at_int HR0.out x11_3 p467 q467
                 cases e467
                 replace hx467_0 := (HB.out.cell (World.block_lt_of_cell? w _ hx467_0)).trans hx467_0
                 replace p467 := eq_true p467
                 replace q467 := eq_true q467
                 have p468 : 0 ≤ (x11_3 : Int) := of_decide_eq_true (by first | (with_reducible assumption) | assumption)
                 have q468 : x11_3 < (l1.length : Int) := of_decide_eq_true (by first | (with_reducible assumption) | assumption)
                 obtain ⟨ad468, e468, hx468_0⟩ := Kd.at_int HR1.out x11_3 p468 q468
                 cases e468
                 replace hx468_0 := (HB.out.cell (World.block_lt_of_cell? w _ hx468_0)).trans hx468_0
                 replace p468 := eq_true p468
                 replace q468 := eq_true q468
                 have p469 : 0 ≤ (0 : Int) := (by omega)
                 have q469 : 0 < (t458.length : Int) := of_decide_eq_true (by first | (with_reducible assumption) | assumption)
                 obtain ⟨ad469, e469, hx469_0, hx469_1, hx469_2, hx469_3⟩ := at_T48 (Kd.R_reads' HO_5.out).2.2 0 p469 q469
                 cases e469
                 have qi469 : (0 < t458.length) = True := eq_true (by omega)
                 (try rw [show ((0 : Int)).toNat = 0 from rfl] at hx469_0)
                 (try rw [show 0 * 4 = 0 from rfl] at hx469_0)
                 (try rw [Addr.add_zero'] at hx469_0)
                 (try rw [show ((0 : Int)).toNat = 0 from rfl] at hx469_1)
                 (try rw [show 0 * 4 = 0 from rfl] at hx469_1)
                 (try rw [Addr.add_zero'] at hx469_1)
                 (try rw [show ((0 : Int)).toNat = 0 from rfl] at hx469_2)
                 (try rw [show 0 * 4 = 0 from rfl] at hx469_2)
                 (try rw [Addr.add_zero'] at hx469_2)
                 (try rw [show ((0 : Int)).toNat = 0 from rfl] at hx469_3)
                 (try rw [show 0 * 4 = 0 from rfl] at hx469_3)
                 (try rw [Addr.add_zero'] at hx469_3)
                 replace p469 := eq_true p469
                 replace q469 := eq_true q469
                 go_wp2
                 repeat (go_quiet (fail); try go_wp2)
                 go_ret
                 exact ⟨by first | rfl | (simp [errW_none, errW_some] <;> rfl) | (simp [*, errW_none, errW_some] <;> rfl), by repeat (first | (with_reducible first | exact HB.out | apply below_alloc | apply pw_below_drewN | apply below_drew1) | exact HB.out)⟩
                ·rw [if_neg c28] at H
                 exact absurd H (by simp)
             ·rw [if_neg c25] at H
              exact absurd H (by simp)
            ·rw [if_neg c24] at H
             have c24b0 : decide (x11_3 < (l1.length : Int)) = false := decide_eq_false c24
             clear c24
             by_cases c29 : (t458.length : Int) = 0
             ·rw [if_pos c29] at H
              have c29b0 : ((t458.length : Int) == 0) = true := beq_iff_eq.mpr c29
              have c29b1 : ((t458.length : Int) != 0) = false := bne_eq_false_iff_eq.mpr c29
              clear c29
              obtain rfl := Option.some.inj H
              go_wp2
              repeat (go_quiet (fail); try go_wp2)
              go_ret
              exact ⟨by first | rfl | (simp [errW_none, errW_some] <;> rfl) | (simp [*, errW_none, errW_some] <;> rfl), by repeat (first | (with_reducible first | exact HB.out | apply below_alloc | apply pw_below_drewN | apply below_drew1) | exact HB.out)⟩
             ·rw [if_neg c29] at H
              have c29b0 : ((t458.length : Int) == 0) = false := beq_eq_false_iff_ne.mpr c29
              have c29b1 : ((t458.length : Int) != 0) = true := bne_iff_ne.mpr c29
              have c29b2 : ¬ (t458 = []) := fun h_ => c29 (by rw [h_]; rfl)
              by_cases c30 : 0 < (t458.length : Int)
              ·rw [if_pos c30] at H
               have c30b0 : decide (0 < (t458.length : Int)) = true := decide_eq_true c30
               have c30b1 : decide (0 < t458.length) = true := decide_eq_true (by omega)
               clear c30
               obtain rfl := Option.some.inj H
               have p470 : 0 ≤ (0 : Int) := (by omega)
               have q470 : 0 < (t458.length : Int) := of_decide_eq_true (by first | (with_reducible assumption) | assumption)
               obtain ⟨ad470, e470, hx470_0, hx470_1, hx470_2, hx470_3⟩ := at_T48 (Kd.R_reads' HO_5.out).2.2 0 p470 q470
               cases e470
               have qi470 : (0 < t458.length) = True := eq_true (by omega)
               (try rw [show ((0 : Int)).toNat = 0 from rfl] at hx470_0)
               (try rw [show 0 * 4 = 0 from rfl] at hx470_0)
               (try rw [Addr.add_zero'] at hx470_0)
               (try rw [show ((0 : Int)).toNat = 0 from rfl] at hx470_1)
               (try rw [show 0 * 4 = 0 from rfl] at hx470_1)
               (try rw [Addr.add_zero'] at hx470_1)
               (try rw [show ((0 : Int)).toNat = 0 from rfl] at hx470_2)
               (try rw [show 0 * 4 = 0 from rfl] at hx470_2)
               (try rw [Addr.add_zero'] at hx470_2)
               (try rw [show ((0 : Int)).toNat = 0 from rfl] at hx470_3)
               (try rw [show 0 * 4 = 0 from rfl] at hx470_3)
               (try rw [Addr.add_zero'] at hx470_3)
               replace p470 := eq_true p470
               replace q470 := eq_true q470
               go_wp2
               repeat (go_quiet (fail); try go_wp2)
               go_ret
               exact ⟨by first | rfl | (simp [errW_none, errW_some] <;> rfl) | (simp [*, errW_none, errW_some] <;> rfl), by repeat (first | (with_reducible first | exact HB.out | apply below_alloc | apply pw_below_drewN | apply below_drew1) | exact HB.out)⟩
              ·rw [if_neg c30] at H
               exact absurd H (by simp)
           ·rw [if_neg c23] at H
            have c23b0 : decide (x11_3 < (l0.length : Int)) = false := decide_eq_false c23
            clear c23
            by_cases c31 : (t458.length : Int) = 0
            ·rw [if_pos c31] at H
             have c31b0 : ((t458.length : Int) == 0) = true := beq_iff_eq.mpr c31
             have c31b1 : ((t458.length : Int) != 0) = false := bne_eq_false_iff_eq.mpr c31
             clear c31
             obtain rfl := Option.some.inj H
             go_wp2
             repeat (go_quiet (fail); try go_wp2)
             go_ret
             exact ⟨by first | rfl | (simp [errW_none, errW_some] <;> rfl) | (simp [*, errW_none, errW_some] <;> rfl), by repeat (first | (with_reducible first | exact HB.out | apply below_alloc | apply pw_below_drewN | apply below_drew1) | exact HB.out)⟩
            ·rw [if_neg c31] at H
             have c31b0 : ((t458.length : Int) == 0) = false := beq_eq_false_iff_ne.mpr c31
             have c31b1 : ((t458.length : Int) != 0) = true := bne_iff_ne.mpr c31
             have c31b2 : ¬ (t458 = []) := fun h_ => c31 (by rw [h_]; rfl)
             by_cases c32 : 0 < (t458.length : Int)
             ·rw [if_pos c32] at H
              have c32b0 : decide (0 < (t458.length : Int)) = true := decide_eq_true c32
              have c32b1 : decide (0 < t458.length) = true := decide_eq_true (by omega)
              clear c32
              obtain rfl := Option.some.inj H
              have p471 : 0 ≤ (0 : Int) := (by omega)
              have q471 : 0 < (t458.length : Int) := of_decide_eq_true (by first | (with_reducible assumption) | assumption)
              obtain ⟨ad471, e471, hx471_0, hx471_1, hx471_2, hx471_3⟩ := at_T48 (Kd.R_reads' HO_5.out).2.2 0 p471 q471
              cases e471
              have qi471 : (0 < t458.length) = True := eq_true (by omega)
              (try rw [show ((0 : Int)).toNat = 0 from rfl] at hx471_0)
              (try rw [show 0 * 4 = 0 from rfl] at hx471_0)
              (try rw [Addr.add_zero'] at hx471_0)
              (try rw [show ((0 : Int)).toNat = 0 from rfl] at hx471_1)
              (try rw [show 0 * 4 = 0 from rfl] at hx471_1)
              (try rw [Addr.add_zero'] at hx471_1)
              (try rw [show ((0 : Int)).toNat = 0 from rfl] at hx471_2)
              (try rw [show 0 * 4 = 0 from rfl] at hx471_2)
              (try rw [Addr.add_zero'] at hx471_2)
              (try rw [show ((0 : Int)).toNat = 0 from rfl] at hx471_3)
              (try rw [show 0 * 4 = 0 from rfl] at hx471_3)
              (try rw [Addr.add_zero'] at hx471_3)
              replace p471 := eq_true p471
              replace q471 := eq_true q471
              go_wp2
              repeat (go_quiet (fail); try go_wp2)
              go_ret
              exact ⟨by first | rfl | (simp [errW_none, errW_some] <;> rfl) | (simp [*, errW_none, errW_some] <;> rfl), by repeat (first | (with_reducible first | exact HB.out | apply below_alloc | apply pw_below_drewN | apply below_drew1) | exact HB.out)⟩
             ·rw [if_neg c32] at H
              exact absurd H (by simp)
  ·replace c4 := Bool.eq_false_iff.mpr c4
   subst c4
   have H1 : (some false) = some r := by rw [if_neg (show ¬ (false = true) by decide)] at H; exact H
   clear H
   have H := H1
   clear H1
   obtain rfl := Option.some.inj H
   go_enter Try.func6, Try.ntmps6
   go_wp2_with (first | (go_at_call 16; (with_reducible refine (redlinelaw07_works.calls k  false _ A3.out).mono ?_); rintro e w33 ⟨rfl, hb⟩; have n0_ := Aside0.mk (below_step (by repeat (first | (with_reducible first | exact HB.out | apply below_alloc | apply pw_below_drewN | apply below_drew1) | exact HB.out)) hb); clear HB; have HB := n0_; clear n0_; (try clear hb); (try clear hb2); (try clear hk); (try clear hi)))
   repeat (go_quiet (first | (go_at_call 16; (with_reducible refine (redlinelaw07_works.calls k  false _ A3.out).mono ?_); rintro e w33 ⟨rfl, hb⟩; have n0_ := Aside0.mk (below_step (by repeat (first | (with_reducible first | exact HB.out | apply below_alloc | apply pw_below_drewN | apply below_drew1) | exact HB.out)) hb); clear HB; have HB := n0_; clear n0_; (try clear hb); (try clear hb2); (try clear hk); (try clear hi))); try go_wp2_with (first | (go_at_call 16; (with_reducible refine (redlinelaw07_works.calls k  false _ A3.out).mono ?_); rintro e w33 ⟨rfl, hb⟩; have n0_ := Aside0.mk (below_step (by repeat (first | (with_reducible first | exact HB.out | apply below_alloc | apply pw_below_drewN | apply below_drew1) | exact HB.out)) hb); clear HB; have HB := n0_; clear n0_; (try clear hb); (try clear hb2); (try clear hk); (try clear hi))))
   go_ret
   exact ⟨by first | rfl | (simp [errW_none, errW_some] <;> rfl) | (simp [*, errW_none, errW_some] <;> rfl), by repeat (first | (with_reducible first | exact HB.out | apply below_alloc | apply pw_below_drewN | apply below_drew1) | exact HB.out)⟩
def redlinelaw07_PatienceHonest.Pure : Prop := ∀ (l0 : List Int) (l1 : List Int), l0.length ≤ maxLen → l0.length * 8 ≤ 140737488351232 → (∀ x ∈ l0, (Lit.int .i64 x).wf = true) → l1.length ≤ maxLen → l1.length * 8 ≤ 140737488351232 → (∀ x ∈ l1, (Lit.int .i64 x).wf = true) → ∃ k, redlinelaw07_PatienceHonest.f k l0 l1 = some true
theorem redlinelaw07_PatienceHonest.walk (P : redlinelaw07_PatienceHonest.Pure) (a0 : Option Addr) (len0 cap0 : Nat) (z0 : List Int) (a1 : Option Addr) (len1 cap1 : Nat) (z1 : List Int) (w : World) (w0 : (a0 = none ∧ len0 = 0 ∧ cap0 = 0 ∧ z0 = []) ∨ ∃ x, a0 = some x ∧ len0 ≤ cap0 ∧ cap0 ≤ maxLen ∧ z0.length = cap0 ∧ (∀ i, i < z0.length → w.cell? (x.add i) = some (.int .i64 (z0.getD i 0))) ∧ ∀ n ∈ z0, (Lit.int .i64 n).wf = true) (y0 : len0 * 8 ≤ 140737488351232) (w1 : (a1 = none ∧ len1 = 0 ∧ cap1 = 0 ∧ z1 = []) ∨ ∃ x, a1 = some x ∧ len1 ≤ cap1 ∧ cap1 ≤ maxLen ∧ z1.length = cap1 ∧ (∀ i, i < z1.length → w.cell? (x.add i) = some (.int .i64 (z1.getD i 0))) ∧ ∀ n ∈ z1, (Lit.int .i64 n).wf = true) (y1 : len1 * 8 ≤ 140737488351232) :
    Calls Try.prog 6 #[.slice a0 len0 cap0, .slice a1 len1 cap1] w fun e w' => e = .returned (.bool true) ∧ Below w.heap.size w w' := by
  obtain ⟨l0, rfl, hr0, hm0, hw0, hc0⟩ := ReadsInt.ofRowC w0
  obtain ⟨l1, rfl, hr1, hm1, hw1, hc1⟩ := ReadsInt.ofRowC w1
  obtain ⟨k, h⟩ := P l0 l1 hm0 y0 hw0 hm1 y1 hw1
  refine (redlinelaw07_PatienceHonest.calls k _ _ l0 _ _ l1 true w (Kd.C_of_reads (d := (0 : Int)) (h1 := fun _ => rfl) hr0) hc0 (Kd.C_of_reads (d := (0 : Int)) (h1 := fun _ => rfl) hr1) hc1 h).mono ?_
  rintro e w' ⟨rfl, hd⟩
  exact ⟨rfl, hd⟩
end Go.Proofs.Ytonbplflmdpikaa.X
