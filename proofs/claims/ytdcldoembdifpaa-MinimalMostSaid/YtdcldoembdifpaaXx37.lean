-- printed by xprint.py, a program of this session's own over the kit's print
import Derived.Test.YtdcldoembdifpaaXx0
import Derived.Test.YtdcldoembdifpaaXx17
import Derived.Test.YtdcldoembdifpaaXx19
import Derived.Test.YtdcldoembdifpaaXx27
import Derived.Test.YtdcldoembdifpaaXx36
namespace Go.Proofs.Ytdcldoembdifpaa.X
open Go.RowKit Go.Proofs.YtdcldoembdifpaaW.PrintWords Go.Proofs.YtdcldoembdifpaaW.PrintLast Go.Proofs.YtdcldoembdifpaaW.PrintMore
attribute [local go_sem] max2_int min2_int max_two min_two max_three min_three max_four min_four   -- for this text's walks alone
open Go.Proofs.YtdcldoembdifpaaW.HandWords
set_option linter.unusedVariables false
set_option linter.unusedSimpArgs false

/-! ### redlinelaw06_MinimalMost: function 9 -/
mutual
def redlinelaw06_MinimalMost.j0 : Nat → List Int → List Int → List Int → Bool → Option (Bool)
  | 0, _, _, _, _ => none
  | k + 1, x0, x1, x2, x27 => if x27 = true then (some true) else ((minimal_Diff.f k x0 x1).bind fun bt446 => ((minimal_Length.f k x0 x1).bind fun bt450 => ((redlinelaw06_Honest.f k bt446.1 x0 x1).bind fun bt452 => (if bt446.2 = 0 then (if bt450.2 = 0 then (if bt452.2 = true then (redlinelaw06_MinimalMost.j1 k x0 x1 x2 bt450.1 (bt452.1 != bt450.1)) else (redlinelaw06_MinimalMost.j1 k x0 x1 x2 bt450.1 true)) else (redlinelaw06_MinimalMost.j1 k x0 x1 x2 bt450.1 true)) else (redlinelaw06_MinimalMost.j1 k x0 x1 x2 bt450.1 true)))))
def redlinelaw06_MinimalMost.j1 : Nat → List Int → List Int → List Int → Int → Bool → Option (Bool)
  | 0, _, _, _, _, _ => none
  | k + 1, x0, x1, x2, x9, x61 => if x61 = true then (some false) else (redlinelaw06_MinimalMost.l0 k x0 x1 x2 x9 0 0 0)
def redlinelaw06_MinimalMost.l0 : Nat → List Int → List Int → List Int → Int → Int → Int → Int → Option (Bool)
  | 0, _, _, _, _, _, _, _ => none
  | k + 1, x0, x1, x2, x9, x13, x14, x15 => if x15 < (x0.length : Int) then (if (x2.length : Int) > 0 then (if (x2.length : Int) = 0 then (none) else (if 0 ≤ (Int.tmod x15 (x2.length : Int)) then (if (Int.tmod x15 (x2.length : Int)) < (x2.length : Int) then (redlinelaw06_MinimalMost.j3 k x0 x1 x2 x9 x13 x14 x15 (wrap64 (Int.tmod (IntKind.u64.wrap (rd x2 (Int.tmod x15 (x2.length : Int)))) 4))) else (none)) else (none))) else (redlinelaw06_MinimalMost.j3 k x0 x1 x2 x9 x13 x14 x15 0)) else (some (decide (x13 ≤ x9)))
def redlinelaw06_MinimalMost.j3 : Nat → List Int → List Int → List Int → Int → Int → Int → Int → Int → Option (Bool)
  | 0, _, _, _, _, _, _, _, _ => none
  | k + 1, x0, x1, x2, x9, x13, x14, x15, x16 => redlinelaw06_MinimalMost.l1 k x0 x1 x2 x9 x13 x14 x15 x16 x14
def redlinelaw06_MinimalMost.l1 : Nat → List Int → List Int → List Int → Int → Int → Int → Int → Int → Int → Option (Bool)
  | 0, _, _, _, _, _, _, _, _, _ => none
  | k + 1, x0, x1, x2, x9, x13, x14, x15, x16, x17 => if x17 < (x1.length : Int) then (redlinelaw06_MinimalMost.j5 k x0 x1 x2 x9 x13 x14 x15 x16 x17 (decide (x17 ≤ (wrap64 (x14 + (wrap64 (x16 * 3))))))) else (redlinelaw06_MinimalMost.j5 k x0 x1 x2 x9 x13 x14 x15 x16 x17 false)
def redlinelaw06_MinimalMost.j5 : Nat → List Int → List Int → List Int → Int → Int → Int → Int → Int → Int → Bool → Option (Bool)
  | 0, _, _, _, _, _, _, _, _, _, _ => none
  | k + 1, x0, x1, x2, x9, x13, x14, x15, x16, x17, x93 => if x93 = true then (if 0 ≤ x15 then (if x15 < (x0.length : Int) then (if 0 ≤ x17 then (if x17 < (x1.length : Int) then (if (rd x0 x15) = (rd x1 x17) then (redlinelaw06_MinimalMost.l0 k x0 x1 x2 x9 (wrap64 (x13 + 1)) (wrap64 (x17 + 1)) (wrap64 (x15 + 1))) else (redlinelaw06_MinimalMost.l1 k x0 x1 x2 x9 x13 x14 x15 x16 (wrap64 (x17 + 1)))) else (none)) else (none)) else (none)) else (none)) else (redlinelaw06_MinimalMost.l0 k x0 x1 x2 x9 x13 x14 (wrap64 (x15 + 1)))
end
def redlinelaw06_MinimalMost.f (k : Nat) (l0 : List Int) (l1 : List Int) (l2 : List Int) : Option (Bool) := (redlinelaw06_works.f k).bind fun t445 => (if t445 = true then (if (l0.length : Int) > 600 then (redlinelaw06_MinimalMost.j0 k l0 l1 l2 true) else (redlinelaw06_MinimalMost.j0 k l0 l1 l2 (decide ((l1.length : Int) > 600)))) else (some false))
theorem redlinelaw06_MinimalMost.mono_l : ∀ k, (∀ y0 y1 y2 y3, LeO (redlinelaw06_MinimalMost.j0 k y0 y1 y2 y3) (redlinelaw06_MinimalMost.j0 (k + 1) y0 y1 y2 y3)) ∧ (∀ y0 y1 y2 y3 y4, LeO (redlinelaw06_MinimalMost.j1 k y0 y1 y2 y3 y4) (redlinelaw06_MinimalMost.j1 (k + 1) y0 y1 y2 y3 y4)) ∧ (∀ y0 y1 y2 y3 y4 y5 y6, LeO (redlinelaw06_MinimalMost.l0 k y0 y1 y2 y3 y4 y5 y6) (redlinelaw06_MinimalMost.l0 (k + 1) y0 y1 y2 y3 y4 y5 y6)) ∧ (∀ y0 y1 y2 y3 y4 y5 y6 y7, LeO (redlinelaw06_MinimalMost.j3 k y0 y1 y2 y3 y4 y5 y6 y7) (redlinelaw06_MinimalMost.j3 (k + 1) y0 y1 y2 y3 y4 y5 y6 y7)) ∧ (∀ y0 y1 y2 y3 y4 y5 y6 y7 y8, LeO (redlinelaw06_MinimalMost.l1 k y0 y1 y2 y3 y4 y5 y6 y7 y8) (redlinelaw06_MinimalMost.l1 (k + 1) y0 y1 y2 y3 y4 y5 y6 y7 y8)) ∧ (∀ y0 y1 y2 y3 y4 y5 y6 y7 y8 y9, LeO (redlinelaw06_MinimalMost.j5 k y0 y1 y2 y3 y4 y5 y6 y7 y8 y9) (redlinelaw06_MinimalMost.j5 (k + 1) y0 y1 y2 y3 y4 y5 y6 y7 y8 y9))
  | 0 => ⟨fun _ _ _ _ r h => by simp [redlinelaw06_MinimalMost.j0] at h, fun _ _ _ _ _ r h => by simp [redlinelaw06_MinimalMost.j1] at h, fun _ _ _ _ _ _ _ r h => by simp [redlinelaw06_MinimalMost.l0] at h, fun _ _ _ _ _ _ _ _ r h => by simp [redlinelaw06_MinimalMost.j3] at h, fun _ _ _ _ _ _ _ _ _ r h => by simp [redlinelaw06_MinimalMost.l1] at h, fun _ _ _ _ _ _ _ _ _ _ r h => by simp [redlinelaw06_MinimalMost.j5] at h⟩
  | k + 1 => by
    obtain ⟨ih0, ih1, ih2, ih3, ih4, ih5⟩ := redlinelaw06_MinimalMost.mono_l k
    refine ⟨?_, ?_, ?_, ?_, ?_, ?_⟩
    · intro y0 y1 y2 y3
      unfold redlinelaw06_MinimalMost.j0
      repeat' first
      | (with_reducible exact ih0 _ _ _ _)
      | (with_reducible exact ih1 _ _ _ _ _)
      | (with_reducible exact ih2 _ _ _ _ _ _ _)
      | (with_reducible exact ih3 _ _ _ _ _ _ _ _)
      | (with_reducible exact ih4 _ _ _ _ _ _ _ _ _)
      | (with_reducible exact ih5 _ _ _ _ _ _ _ _ _ _)
      | (with_reducible exact minimal_Diff.mono _ _ _)
      | (with_reducible exact minimal_Length.mono _ _ _)
      | (with_reducible exact redlinelaw06_Honest.mono _ _ _ _)
      | (with_reducible exact redlinelaw06_works.mono _)
      | (with_reducible exact LeO.refl _)
      | (with_reducible exact LeO.none _)
      | (with_reducible refine LeO.ite ?_ ?_)
      | (with_reducible refine LeO.bind ?_ (fun _ => ?_))
      | exact ih0 _ _ _ _
      | exact ih1 _ _ _ _ _
      | exact ih2 _ _ _ _ _ _ _
      | exact ih3 _ _ _ _ _ _ _ _
      | exact ih4 _ _ _ _ _ _ _ _ _
      | exact ih5 _ _ _ _ _ _ _ _ _ _
      | exact minimal_Diff.mono _ _ _
      | exact minimal_Length.mono _ _ _
      | exact redlinelaw06_Honest.mono _ _ _ _
      | exact redlinelaw06_works.mono _
      | exact LeO.none _
      | refine LeO.ite ?_ ?_
      | refine LeO.bind ?_ (fun _ => ?_)
    · intro y0 y1 y2 y3 y4
      unfold redlinelaw06_MinimalMost.j1
      repeat' first
      | (with_reducible exact ih0 _ _ _ _)
      | (with_reducible exact ih1 _ _ _ _ _)
      | (with_reducible exact ih2 _ _ _ _ _ _ _)
      | (with_reducible exact ih3 _ _ _ _ _ _ _ _)
      | (with_reducible exact ih4 _ _ _ _ _ _ _ _ _)
      | (with_reducible exact ih5 _ _ _ _ _ _ _ _ _ _)
      | (with_reducible exact minimal_Diff.mono _ _ _)
      | (with_reducible exact minimal_Length.mono _ _ _)
      | (with_reducible exact redlinelaw06_Honest.mono _ _ _ _)
      | (with_reducible exact redlinelaw06_works.mono _)
      | (with_reducible exact LeO.refl _)
      | (with_reducible exact LeO.none _)
      | (with_reducible refine LeO.ite ?_ ?_)
      | (with_reducible refine LeO.bind ?_ (fun _ => ?_))
      | exact ih0 _ _ _ _
      | exact ih1 _ _ _ _ _
      | exact ih2 _ _ _ _ _ _ _
      | exact ih3 _ _ _ _ _ _ _ _
      | exact ih4 _ _ _ _ _ _ _ _ _
      | exact ih5 _ _ _ _ _ _ _ _ _ _
      | exact minimal_Diff.mono _ _ _
      | exact minimal_Length.mono _ _ _
      | exact redlinelaw06_Honest.mono _ _ _ _
      | exact redlinelaw06_works.mono _
      | exact LeO.none _
      | refine LeO.ite ?_ ?_
      | refine LeO.bind ?_ (fun _ => ?_)
    · intro y0 y1 y2 y3 y4 y5 y6
      unfold redlinelaw06_MinimalMost.l0
      repeat' first
      | (with_reducible exact ih0 _ _ _ _)
      | (with_reducible exact ih1 _ _ _ _ _)
      | (with_reducible exact ih2 _ _ _ _ _ _ _)
      | (with_reducible exact ih3 _ _ _ _ _ _ _ _)
      | (with_reducible exact ih4 _ _ _ _ _ _ _ _ _)
      | (with_reducible exact ih5 _ _ _ _ _ _ _ _ _ _)
      | (with_reducible exact minimal_Diff.mono _ _ _)
      | (with_reducible exact minimal_Length.mono _ _ _)
      | (with_reducible exact redlinelaw06_Honest.mono _ _ _ _)
      | (with_reducible exact redlinelaw06_works.mono _)
      | (with_reducible exact LeO.refl _)
      | (with_reducible exact LeO.none _)
      | (with_reducible refine LeO.ite ?_ ?_)
      | (with_reducible refine LeO.bind ?_ (fun _ => ?_))
      | exact ih0 _ _ _ _
      | exact ih1 _ _ _ _ _
      | exact ih2 _ _ _ _ _ _ _
      | exact ih3 _ _ _ _ _ _ _ _
      | exact ih4 _ _ _ _ _ _ _ _ _
      | exact ih5 _ _ _ _ _ _ _ _ _ _
      | exact minimal_Diff.mono _ _ _
      | exact minimal_Length.mono _ _ _
      | exact redlinelaw06_Honest.mono _ _ _ _
      | exact redlinelaw06_works.mono _
      | exact LeO.none _
      | refine LeO.ite ?_ ?_
      | refine LeO.bind ?_ (fun _ => ?_)
    · intro y0 y1 y2 y3 y4 y5 y6 y7
      unfold redlinelaw06_MinimalMost.j3
      repeat' first
      | (with_reducible exact ih0 _ _ _ _)
      | (with_reducible exact ih1 _ _ _ _ _)
      | (with_reducible exact ih2 _ _ _ _ _ _ _)
      | (with_reducible exact ih3 _ _ _ _ _ _ _ _)
      | (with_reducible exact ih4 _ _ _ _ _ _ _ _ _)
      | (with_reducible exact ih5 _ _ _ _ _ _ _ _ _ _)
      | (with_reducible exact minimal_Diff.mono _ _ _)
      | (with_reducible exact minimal_Length.mono _ _ _)
      | (with_reducible exact redlinelaw06_Honest.mono _ _ _ _)
      | (with_reducible exact redlinelaw06_works.mono _)
      | (with_reducible exact LeO.refl _)
      | (with_reducible exact LeO.none _)
      | (with_reducible refine LeO.ite ?_ ?_)
      | (with_reducible refine LeO.bind ?_ (fun _ => ?_))
      | exact ih0 _ _ _ _
      | exact ih1 _ _ _ _ _
      | exact ih2 _ _ _ _ _ _ _
      | exact ih3 _ _ _ _ _ _ _ _
      | exact ih4 _ _ _ _ _ _ _ _ _
      | exact ih5 _ _ _ _ _ _ _ _ _ _
      | exact minimal_Diff.mono _ _ _
      | exact minimal_Length.mono _ _ _
      | exact redlinelaw06_Honest.mono _ _ _ _
      | exact redlinelaw06_works.mono _
      | exact LeO.none _
      | refine LeO.ite ?_ ?_
      | refine LeO.bind ?_ (fun _ => ?_)
    · intro y0 y1 y2 y3 y4 y5 y6 y7 y8
      unfold redlinelaw06_MinimalMost.l1
      repeat' first
      | (with_reducible exact ih0 _ _ _ _)
      | (with_reducible exact ih1 _ _ _ _ _)
      | (with_reducible exact ih2 _ _ _ _ _ _ _)
      | (with_reducible exact ih3 _ _ _ _ _ _ _ _)
      | (with_reducible exact ih4 _ _ _ _ _ _ _ _ _)
      | (with_reducible exact ih5 _ _ _ _ _ _ _ _ _ _)
      | (with_reducible exact minimal_Diff.mono _ _ _)
      | (with_reducible exact minimal_Length.mono _ _ _)
      | (with_reducible exact redlinelaw06_Honest.mono _ _ _ _)
      | (with_reducible exact redlinelaw06_works.mono _)
      | (with_reducible exact LeO.refl _)
      | (with_reducible exact LeO.none _)
      | (with_reducible refine LeO.ite ?_ ?_)
      | (with_reducible refine LeO.bind ?_ (fun _ => ?_))
      | exact ih0 _ _ _ _
      | exact ih1 _ _ _ _ _
      | exact ih2 _ _ _ _ _ _ _
      | exact ih3 _ _ _ _ _ _ _ _
      | exact ih4 _ _ _ _ _ _ _ _ _
      | exact ih5 _ _ _ _ _ _ _ _ _ _
      | exact minimal_Diff.mono _ _ _
      | exact minimal_Length.mono _ _ _
      | exact redlinelaw06_Honest.mono _ _ _ _
      | exact redlinelaw06_works.mono _
      | exact LeO.none _
      | refine LeO.ite ?_ ?_
      | refine LeO.bind ?_ (fun _ => ?_)
    · intro y0 y1 y2 y3 y4 y5 y6 y7 y8 y9
      unfold redlinelaw06_MinimalMost.j5
      repeat' first
      | (with_reducible exact ih0 _ _ _ _)
      | (with_reducible exact ih1 _ _ _ _ _)
      | (with_reducible exact ih2 _ _ _ _ _ _ _)
      | (with_reducible exact ih3 _ _ _ _ _ _ _ _)
      | (with_reducible exact ih4 _ _ _ _ _ _ _ _ _)
      | (with_reducible exact ih5 _ _ _ _ _ _ _ _ _ _)
      | (with_reducible exact minimal_Diff.mono _ _ _)
      | (with_reducible exact minimal_Length.mono _ _ _)
      | (with_reducible exact redlinelaw06_Honest.mono _ _ _ _)
      | (with_reducible exact redlinelaw06_works.mono _)
      | (with_reducible exact LeO.refl _)
      | (with_reducible exact LeO.none _)
      | (with_reducible refine LeO.ite ?_ ?_)
      | (with_reducible refine LeO.bind ?_ (fun _ => ?_))
      | exact ih0 _ _ _ _
      | exact ih1 _ _ _ _ _
      | exact ih2 _ _ _ _ _ _ _
      | exact ih3 _ _ _ _ _ _ _ _
      | exact ih4 _ _ _ _ _ _ _ _ _
      | exact ih5 _ _ _ _ _ _ _ _ _ _
      | exact minimal_Diff.mono _ _ _
      | exact minimal_Length.mono _ _ _
      | exact redlinelaw06_Honest.mono _ _ _ _
      | exact redlinelaw06_works.mono _
      | exact LeO.none _
      | refine LeO.ite ?_ ?_
      | refine LeO.bind ?_ (fun _ => ?_)
theorem redlinelaw06_MinimalMost.mono : ∀ a0 a1 a2 k, LeO (redlinelaw06_MinimalMost.f k a0 a1 a2) (redlinelaw06_MinimalMost.f (k + 1) a0 a1 a2) := by
  intro a0 a1 a2 k
  obtain ⟨ih0, ih1, ih2, ih3, ih4, ih5⟩ := redlinelaw06_MinimalMost.mono_l k
  unfold redlinelaw06_MinimalMost.f
  repeat' first
      | (with_reducible exact ih0 _ _ _ _)
      | (with_reducible exact ih1 _ _ _ _ _)
      | (with_reducible exact ih2 _ _ _ _ _ _ _)
      | (with_reducible exact ih3 _ _ _ _ _ _ _ _)
      | (with_reducible exact ih4 _ _ _ _ _ _ _ _ _)
      | (with_reducible exact ih5 _ _ _ _ _ _ _ _ _ _)
      | (with_reducible exact minimal_Diff.mono _ _ _)
      | (with_reducible exact minimal_Length.mono _ _ _)
      | (with_reducible exact redlinelaw06_Honest.mono _ _ _ _)
      | (with_reducible exact redlinelaw06_works.mono _)
      | (with_reducible exact LeO.refl _)
      | (with_reducible exact LeO.none _)
      | (with_reducible refine LeO.ite ?_ ?_)
      | (with_reducible refine LeO.bind ?_ (fun _ => ?_))
      | exact ih0 _ _ _ _
      | exact ih1 _ _ _ _ _
      | exact ih2 _ _ _ _ _ _ _
      | exact ih3 _ _ _ _ _ _ _ _
      | exact ih4 _ _ _ _ _ _ _ _ _
      | exact ih5 _ _ _ _ _ _ _ _ _ _
      | exact minimal_Diff.mono _ _ _
      | exact minimal_Length.mono _ _ _
      | exact redlinelaw06_Honest.mono _ _ _ _
      | exact redlinelaw06_works.mono _
      | exact LeO.none _
      | refine LeO.ite ?_ ?_
      | refine LeO.bind ?_ (fun _ => ?_)
set_option maxHeartbeats 8000000 in
set_option maxRecDepth 100000 in
theorem redlinelaw06_MinimalMost.calls (k : Nat) (A0 : Option Addr) (c0 : Nat) (l0 : List Int) (A1 : Option Addr) (c1 : Nat) (l1 : List Int) (A2 : Option Addr) (c2 : Nat) (l2 : List Int) (r : Bool) (w : World) (hr0 : Kd.C (Kd.int .i64) w A0 l0.length l0) (hc0 : l0.length ≤ c0) (hr1 : Kd.C (Kd.int .i64) w A1 l1.length l1) (hc1 : l1.length ≤ c1) (hr2 : Kd.C (Kd.int .i64) w A2 l2.length l2) (hc2 : l2.length ≤ c2) (h : redlinelaw06_MinimalMost.f k l0 l1 l2 = some r) :
    Calls Try.prog 9 #[.slice A0 l0.length c0, .slice A1 l1.length c1, .slice A2 l2.length c2] w fun e w' => e = .returned (.bool r) ∧ Below w.heap.size w w' := by
  have HR0 := Aside0.mk hr0
  have HC0 := Aside0.mk hc0
  clear hr0 hc0
  have HR1 := Aside0.mk hr1
  have HC1 := Aside0.mk hc1
  clear hr1 hc1
  have HR2 := Aside0.mk hr2
  have HC2 := Aside0.mk hc2
  clear hr2 hc2
  have HB := Aside0.mk (Below.refl w.heap.size w)
  have H : ((redlinelaw06_works.f k).bind fun t445 => (if t445 = true then (if (l0.length : Int) > 600 then (redlinelaw06_MinimalMost.j0 k l0 l1 l2 true) else (redlinelaw06_MinimalMost.j0 k l0 l1 l2 (decide ((l1.length : Int) > 600)))) else (some false))) = some r := h
  clear h
  replace H := Option.bind_eq_some_iff.mp H
  obtain ⟨t445, A40, H⟩ := H
  replace H : (if t445 = true then (if (l0.length : Int) > 600 then (redlinelaw06_MinimalMost.j0 k l0 l1 l2 true) else (redlinelaw06_MinimalMost.j0 k l0 l1 l2 (decide ((l1.length : Int) > 600)))) else (some false)) = some r := H
  have A4 := Aside0.mk A40
  clear A40
  by_cases c5 : t445 = true
  ·subst c5
   have H1 : (if (l0.length : Int) > 600 then (redlinelaw06_MinimalMost.j0 k l0 l1 l2 true) else (redlinelaw06_MinimalMost.j0 k l0 l1 l2 (decide ((l1.length : Int) > 600)))) = some r := by rw [if_pos rfl] at H; exact H
   clear H
   have H := H1
   clear H1
   have HC6 := Aside0.mk H
   clear H
   go_enter Try.func9, Try.ntmps9
   go_upto_region 3 with (first | (go_at_call 26; (with_reducible refine (redlinelaw06_works.calls k  true _ A4.out).mono ?_); rintro e w7 ⟨rfl, hb⟩; have n0_ := Aside0.mk (below_step (by repeat (first | (with_reducible first | exact HB.out | apply below_alloc | apply pw_below_drewN | apply below_drew1) | exact HB.out)) hb); clear HB; have HB := n0_; clear n0_; (try clear hb); (try clear hb2); (try clear hk); (try clear hi)))
   repeat (go_quiet (first | (go_at_call 26; (with_reducible refine (redlinelaw06_works.calls k  true _ A4.out).mono ?_); rintro e w7 ⟨rfl, hb⟩; have n0_ := Aside0.mk (below_step (by repeat (first | (with_reducible first | exact HB.out | apply below_alloc | apply pw_below_drewN | apply below_drew1) | exact HB.out)) hb); clear HB; have HB := n0_; clear n0_; (try clear hb); (try clear hb2); (try clear hk); (try clear hi))); go_upto_region 3 with (first | (go_at_call 26; (with_reducible refine (redlinelaw06_works.calls k  true _ A4.out).mono ?_); rintro e w7 ⟨rfl, hb⟩; have n0_ := Aside0.mk (below_step (by repeat (first | (with_reducible first | exact HB.out | apply below_alloc | apply pw_below_drewN | apply below_drew1) | exact HB.out)) hb); clear HB; have HB := n0_; clear n0_; (try clear hb); (try clear hb2); (try clear hk); (try clear hi))))
   (try simp only [Act.put, List.setIfInBounds_toArray, List.set_cons_zero, List.set_cons_succ])
   go_cut [27] (fun v27 wc => ∃ (kq : Nat) (x27_5 : Bool), v27 = .bool x27_5 ∧ Aside0 (redlinelaw06_MinimalMost.j0 kq l0 l1 l2 x27_5 = some r) ∧ Aside0 (kq ≤ k) ∧ Aside0 (Below w.heap.size w wc))
   case first =>
    have H := HC6.out
    clear HC6
    by_cases c8 : (l0.length : Int) > 600
    ·rw [if_pos c8] at H
     have c8b0 : decide (600 < (l0.length : Int)) = true := decide_eq_true c8
     have c8b1 : decide (600 < l0.length) = true := decide_eq_true (by omega)
     clear c8
     (first | rw [c8b0] | rw [c8b1] | (simp only [i64_w, i32_w]; rw [c8b0]) | skip)
     have H' := Aside0.mk H
     clear H
     go_wp2
     repeat (go_quiet (fail); try go_wp2)
     go_meet
     case rel => exact ⟨_, (true), (by first | rfl | (simp; done) | (simp [*]; done)), H', ⟨by first | omega | exact Nat.le_refl _⟩, ⟨by repeat (first | (with_reducible first | exact HB.out | apply below_alloc | apply pw_below_drewN | apply below_drew1) | exact HB.out)⟩⟩
    ·rw [if_neg c8] at H
     have c8b0 : decide (600 < (l0.length : Int)) = false := decide_eq_false c8
     have c8b1 : decide (600 < l0.length) = false := decide_eq_false (by omega)
     clear c8
     (first | rw [c8b0] | rw [c8b1] | (simp only [i64_w, i32_w]; rw [c8b0]) | skip)
     have H' := Aside0.mk H
     clear H
     go_wp2
     repeat (go_quiet (fail); try go_wp2)
     go_meet
     case rel => exact ⟨_, (decide ((l1.length : Int) > 600)), (by first | rfl | (simp; done) | (simp [*]; done)), H', ⟨by first | omega | exact Nat.le_refl _⟩, ⟨by repeat (first | (with_reducible first | exact HB.out | apply below_alloc | apply pw_below_drewN | apply below_drew1) | exact HB.out)⟩⟩
   case rest =>
    clear HC6
    try clear c1
    try clear c2
    try clear p2
    try clear c5
    try clear c8
    try clear c8b0
    try clear c8b1
    obtain ⟨kq, x27_5, rfl, HA, HJ5, HB⟩ := hcut
    cases kq with
    | zero => exact absurd HA.out (by simp [redlinelaw06_MinimalMost.j0])
    | succ kj5 =>
     have H := HA.out
     clear HA
     simp only [redlinelaw06_MinimalMost.j0] at H
     by_cases c9 : x27_5 = true
     ·subst c9
      have H1 : (some true) = some r := by rw [if_pos rfl] at H; exact H
      clear H
      have H := H1
      clear H1
      obtain rfl := Option.some.inj H
      go_wp2
      repeat (go_quiet (fail); try go_wp2)
      go_ret
      exact ⟨by first | rfl | (simp [errW_none, errW_some] <;> rfl) | (simp [*, errW_none, errW_some] <;> rfl), by repeat (first | (with_reducible first | exact HB.out | apply below_alloc | apply pw_below_drewN | apply below_drew1) | exact HB.out)⟩
     ·replace c9 := Bool.eq_false_iff.mpr c9
      subst c9
      have H1 : ((minimal_Diff.f kj5 l0 l1).bind fun bt446 => ((minimal_Length.f kj5 l0 l1).bind fun bt450 => ((redlinelaw06_Honest.f kj5 bt446.1 l0 l1).bind fun bt452 => (if bt446.2 = 0 then (if bt450.2 = 0 then (if bt452.2 = true then (redlinelaw06_MinimalMost.j1 kj5 l0 l1 l2 bt450.1 (bt452.1 != bt450.1)) else (redlinelaw06_MinimalMost.j1 kj5 l0 l1 l2 bt450.1 true)) else (redlinelaw06_MinimalMost.j1 kj5 l0 l1 l2 bt450.1 true)) else (redlinelaw06_MinimalMost.j1 kj5 l0 l1 l2 bt450.1 true))))) = some r := by rw [if_neg (show ¬ (false = true) by decide)] at H; exact H
      clear H
      have H := H1
      clear H1
      replace H := Option.bind_eq_some_iff.mp H
      obtain ⟨⟨t446, t447⟩, A100, H⟩ := H
      replace H : ((minimal_Length.f kj5 l0 l1).bind fun bt450 => ((redlinelaw06_Honest.f kj5 t446 l0 l1).bind fun bt452 => (if t447 = 0 then (if bt450.2 = 0 then (if bt452.2 = true then (redlinelaw06_MinimalMost.j1 kj5 l0 l1 l2 bt450.1 (bt452.1 != bt450.1)) else (redlinelaw06_MinimalMost.j1 kj5 l0 l1 l2 bt450.1 true)) else (redlinelaw06_MinimalMost.j1 kj5 l0 l1 l2 bt450.1 true)) else (redlinelaw06_MinimalMost.j1 kj5 l0 l1 l2 bt450.1 true)))) = some r := H
      have A10 := Aside0.mk A100
      clear A100
      replace H := Option.bind_eq_some_iff.mp H
      obtain ⟨⟨t450, t451⟩, A110, H⟩ := H
      replace H : ((redlinelaw06_Honest.f kj5 t446 l0 l1).bind fun bt452 => (if t447 = 0 then (if t451 = 0 then (if bt452.2 = true then (redlinelaw06_MinimalMost.j1 kj5 l0 l1 l2 t450 (bt452.1 != t450)) else (redlinelaw06_MinimalMost.j1 kj5 l0 l1 l2 t450 true)) else (redlinelaw06_MinimalMost.j1 kj5 l0 l1 l2 t450 true)) else (redlinelaw06_MinimalMost.j1 kj5 l0 l1 l2 t450 true))) = some r := H
      have A11 := Aside0.mk A110
      clear A110
      replace H := Option.bind_eq_some_iff.mp H
      obtain ⟨⟨t452, t453⟩, A120, H⟩ := H
      replace H : (if t447 = 0 then (if t451 = 0 then (if t453 = true then (redlinelaw06_MinimalMost.j1 kj5 l0 l1 l2 t450 (t452 != t450)) else (redlinelaw06_MinimalMost.j1 kj5 l0 l1 l2 t450 true)) else (redlinelaw06_MinimalMost.j1 kj5 l0 l1 l2 t450 true)) else (redlinelaw06_MinimalMost.j1 kj5 l0 l1 l2 t450 true)) = some r := H
      have A12 := Aside0.mk A120
      clear A120
      have HC13 := Aside0.mk H
      clear H
      go_upto_region 8 with (first | (go_at_call 22; (with_reducible refine (minimal_Diff.calls kj5 _ _ l0 _ _ l1 t446 t447 _ ?side1 ?side2 ?side3 ?side4 A10.out).mono ?_); (case side1 => repeat (first | exact (Kd.C_below HR0.out HB.out) | (with_reducible refine Kd.C_alloc ?_ _) | (with_reducible refine Kd.C_drewN ?_ _) | (with_reducible refine Kd.C_drew ?_))); (case side2 => exact HC0.out); (case side3 => repeat (first | exact (Kd.C_below HR1.out HB.out) | (with_reducible refine Kd.C_alloc ?_ _) | (with_reducible refine Kd.C_drewN ?_ _) | (with_reducible refine Kd.C_drew ?_))); (case side4 => exact HC1.out); rintro e w14 ⟨v448, rfl, ho0, hb⟩; have n0_ := Aside0.mk (Kd.R_lower ho0 (below_size (by repeat (first | (with_reducible first | exact HB.out | apply below_alloc | apply pw_below_drewN | apply below_drew1) | exact HB.out)))); have n1_ := Aside0.mk (below_step (by repeat (first | (with_reducible first | exact HB.out | apply below_alloc | apply pw_below_drewN | apply below_drew1) | exact HB.out)) hb); clear HB; have HO449 := n0_; have HB := n1_; clear n0_ n1_; (try clear hb); (try clear hb2); (try clear hk); (try clear hi); (try clear ho0)) | (go_at_call 21; (with_reducible refine (minimal_Length.calls kj5 _ _ l0 _ _ l1 t450 t451 _ ?side1 ?side2 ?side3 ?side4 A11.out).mono ?_); (case side1 => repeat (first | exact (Kd.C_below HR0.out HB.out) | (with_reducible refine Kd.C_alloc ?_ _) | (with_reducible refine Kd.C_drewN ?_ _) | (with_reducible refine Kd.C_drew ?_))); (case side2 => exact HC0.out); (case side3 => repeat (first | exact (Kd.C_below HR1.out HB.out) | (with_reducible refine Kd.C_alloc ?_ _) | (with_reducible refine Kd.C_drewN ?_ _) | (with_reducible refine Kd.C_drew ?_))); (case side4 => exact HC1.out); rintro e w15 ⟨rfl, hb⟩; have n0_ := Aside0.mk (Kd.R_below (by (with_reducible repeat (first | apply Kd.R_alloc | apply Kd.R_drewN | apply Kd.R_drew)); exact HO449.out) hb); have n1_ := Aside0.mk (below_step (by repeat (first | (with_reducible first | exact HB.out | apply below_alloc | apply pw_below_drewN | apply below_drew1) | exact HB.out)) hb); clear HO449; clear HB; have HO449 := n0_; have HB := n1_; clear n0_ n1_; (try clear hb); (try clear hb2); (try clear hk); (try clear hi); obtain ⟨Ao16, co16, eo16⟩ := Kd.R_slice HO449.out; subst eo16) | (go_at_call 28; (with_reducible refine (redlinelaw06_Honest.calls kj5 _ _ t446 _ _ l0 _ _ l1 t452 t453 _ ?side1 ?side2 ?side3 ?side4 ?side5 ?side6 A12.out).mono ?_); (case side1 => repeat (first | exact (Kd.R_reads' HO449.out).2.2 | (with_reducible refine Kd.C_alloc ?_ _) | (with_reducible refine Kd.C_drewN ?_ _) | (with_reducible refine Kd.C_drew ?_))); (case side2 => exact (Kd.R_reads' HO449.out).2.1); (case side3 => repeat (first | exact (Kd.C_below HR0.out HB.out) | (with_reducible refine Kd.C_alloc ?_ _) | (with_reducible refine Kd.C_drewN ?_ _) | (with_reducible refine Kd.C_drew ?_))); (case side4 => exact HC0.out); (case side5 => repeat (first | exact (Kd.C_below HR1.out HB.out) | (with_reducible refine Kd.C_alloc ?_ _) | (with_reducible refine Kd.C_drewN ?_ _) | (with_reducible refine Kd.C_drew ?_))); (case side6 => exact HC1.out); rintro e w17 ⟨rfl, hb⟩; have n0_ := Aside0.mk (Kd.R_below (by (with_reducible repeat (first | apply Kd.R_alloc | apply Kd.R_drewN | apply Kd.R_drew)); exact HO449.out) hb); have n1_ := Aside0.mk (below_step (by repeat (first | (with_reducible first | exact HB.out | apply below_alloc | apply pw_below_drewN | apply below_drew1) | exact HB.out)) hb); clear HO449; clear HB; have HO449 := n0_; have HB := n1_; clear n0_ n1_; (try clear hb); (try clear hb2); (try clear hk); (try clear hi)))
      repeat (go_quiet (first | (go_at_call 22; (with_reducible refine (minimal_Diff.calls kj5 _ _ l0 _ _ l1 t446 t447 _ ?side1 ?side2 ?side3 ?side4 A10.out).mono ?_); (case side1 => repeat (first | exact (Kd.C_below HR0.out HB.out) | (with_reducible refine Kd.C_alloc ?_ _) | (with_reducible refine Kd.C_drewN ?_ _) | (with_reducible refine Kd.C_drew ?_))); (case side2 => exact HC0.out); (case side3 => repeat (first | exact (Kd.C_below HR1.out HB.out) | (with_reducible refine Kd.C_alloc ?_ _) | (with_reducible refine Kd.C_drewN ?_ _) | (with_reducible refine Kd.C_drew ?_))); (case side4 => exact HC1.out); rintro e w14 ⟨v448, rfl, ho0, hb⟩; have n0_ := Aside0.mk (Kd.R_lower ho0 (below_size (by repeat (first | (with_reducible first | exact HB.out | apply below_alloc | apply pw_below_drewN | apply below_drew1) | exact HB.out)))); have n1_ := Aside0.mk (below_step (by repeat (first | (with_reducible first | exact HB.out | apply below_alloc | apply pw_below_drewN | apply below_drew1) | exact HB.out)) hb); clear HB; have HO449 := n0_; have HB := n1_; clear n0_ n1_; (try clear hb); (try clear hb2); (try clear hk); (try clear hi); (try clear ho0)) | (go_at_call 21; (with_reducible refine (minimal_Length.calls kj5 _ _ l0 _ _ l1 t450 t451 _ ?side1 ?side2 ?side3 ?side4 A11.out).mono ?_); (case side1 => repeat (first | exact (Kd.C_below HR0.out HB.out) | (with_reducible refine Kd.C_alloc ?_ _) | (with_reducible refine Kd.C_drewN ?_ _) | (with_reducible refine Kd.C_drew ?_))); (case side2 => exact HC0.out); (case side3 => repeat (first | exact (Kd.C_below HR1.out HB.out) | (with_reducible refine Kd.C_alloc ?_ _) | (with_reducible refine Kd.C_drewN ?_ _) | (with_reducible refine Kd.C_drew ?_))); (case side4 => exact HC1.out); rintro e w15 ⟨rfl, hb⟩; have n0_ := Aside0.mk (Kd.R_below (by (with_reducible repeat (first | apply Kd.R_alloc | apply Kd.R_drewN | apply Kd.R_drew)); exact HO449.out) hb); have n1_ := Aside0.mk (below_step (by repeat (first | (with_reducible first | exact HB.out | apply below_alloc | apply pw_below_drewN | apply below_drew1) | exact HB.out)) hb); clear HO449; clear HB; have HO449 := n0_; have HB := n1_; clear n0_ n1_; (try clear hb); (try clear hb2); (try clear hk); (try clear hi); obtain ⟨Ao16, co16, eo16⟩ := Kd.R_slice HO449.out; subst eo16) | (go_at_call 28; (with_reducible refine (redlinelaw06_Honest.calls kj5 _ _ t446 _ _ l0 _ _ l1 t452 t453 _ ?side1 ?side2 ?side3 ?side4 ?side5 ?side6 A12.out).mono ?_); (case side1 => repeat (first | exact (Kd.R_reads' HO449.out).2.2 | (with_reducible refine Kd.C_alloc ?_ _) | (with_reducible refine Kd.C_drewN ?_ _) | (with_reducible refine Kd.C_drew ?_))); (case side2 => exact (Kd.R_reads' HO449.out).2.1); (case side3 => repeat (first | exact (Kd.C_below HR0.out HB.out) | (with_reducible refine Kd.C_alloc ?_ _) | (with_reducible refine Kd.C_drewN ?_ _) | (with_reducible refine Kd.C_drew ?_))); (case side4 => exact HC0.out); (case side5 => repeat (first | exact (Kd.C_below HR1.out HB.out) | (with_reducible refine Kd.C_alloc ?_ _) | (with_reducible refine Kd.C_drewN ?_ _) | (with_reducible refine Kd.C_drew ?_))); (case side6 => exact HC1.out); rintro e w17 ⟨rfl, hb⟩; have n0_ := Aside0.mk (Kd.R_below (by (with_reducible repeat (first | apply Kd.R_alloc | apply Kd.R_drewN | apply Kd.R_drew)); exact HO449.out) hb); have n1_ := Aside0.mk (below_step (by repeat (first | (with_reducible first | exact HB.out | apply below_alloc | apply pw_below_drewN | apply below_drew1) | exact HB.out)) hb); clear HO449; clear HB; have HO449 := n0_; have HB := n1_; clear n0_ n1_; (try clear hb); (try clear hb2); (try clear hk); (try clear hi))); go_upto_region 8 with (first | (go_at_call 22; (with_reducible refine (minimal_Diff.calls kj5 _ _ l0 _ _ l1 t446 t447 _ ?side1 ?side2 ?side3 ?side4 A10.out).mono ?_); (case side1 => repeat (first | exact (Kd.C_below HR0.out HB.out) | (with_reducible refine Kd.C_alloc ?_ _) | (with_reducible refine Kd.C_drewN ?_ _) | (with_reducible refine Kd.C_drew ?_))); (case side2 => exact HC0.out); (case side3 => repeat (first | exact (Kd.C_below HR1.out HB.out) | (with_reducible refine Kd.C_alloc ?_ _) | (with_reducible refine Kd.C_drewN ?_ _) | (with_reducible refine Kd.C_drew ?_))); (case side4 => exact HC1.out); rintro e w14 ⟨v448, rfl, ho0, hb⟩; have n0_ := Aside0.mk (Kd.R_lower ho0 (below_size (by repeat (first | (with_reducible first | exact HB.out | apply below_alloc | apply pw_below_drewN | apply below_drew1) | exact HB.out)))); have n1_ := Aside0.mk (below_step (by repeat (first | (with_reducible first | exact HB.out | apply below_alloc | apply pw_below_drewN | apply below_drew1) | exact HB.out)) hb); clear HB; have HO449 := n0_; have HB := n1_; clear n0_ n1_; (try clear hb); (try clear hb2); (try clear hk); (try clear hi); (try clear ho0)) | (go_at_call 21; (with_reducible refine (minimal_Length.calls kj5 _ _ l0 _ _ l1 t450 t451 _ ?side1 ?side2 ?side3 ?side4 A11.out).mono ?_); (case side1 => repeat (first | exact (Kd.C_below HR0.out HB.out) | (with_reducible refine Kd.C_alloc ?_ _) | (with_reducible refine Kd.C_drewN ?_ _) | (with_reducible refine Kd.C_drew ?_))); (case side2 => exact HC0.out); (case side3 => repeat (first | exact (Kd.C_below HR1.out HB.out) | (with_reducible refine Kd.C_alloc ?_ _) | (with_reducible refine Kd.C_drewN ?_ _) | (with_reducible refine Kd.C_drew ?_))); (case side4 => exact HC1.out); rintro e w15 ⟨rfl, hb⟩; have n0_ := Aside0.mk (Kd.R_below (by (with_reducible repeat (first | apply Kd.R_alloc | apply Kd.R_drewN | apply Kd.R_drew)); exact HO449.out) hb); have n1_ := Aside0.mk (below_step (by repeat (first | (with_reducible first | exact HB.out | apply below_alloc | apply pw_below_drewN | apply below_drew1) | exact HB.out)) hb); clear HO449; clear HB; have HO449 := n0_; have HB := n1_; clear n0_ n1_; (try clear hb); (try clear hb2); (try clear hk); (try clear hi); obtain ⟨Ao16, co16, eo16⟩ := Kd.R_slice HO449.out; subst eo16) | (go_at_call 28; (with_reducible refine (redlinelaw06_Honest.calls kj5 _ _ t446 _ _ l0 _ _ l1 t452 t453 _ ?side1 ?side2 ?side3 ?side4 ?side5 ?side6 A12.out).mono ?_); (case side1 => repeat (first | exact (Kd.R_reads' HO449.out).2.2 | (with_reducible refine Kd.C_alloc ?_ _) | (with_reducible refine Kd.C_drewN ?_ _) | (with_reducible refine Kd.C_drew ?_))); (case side2 => exact (Kd.R_reads' HO449.out).2.1); (case side3 => repeat (first | exact (Kd.C_below HR0.out HB.out) | (with_reducible refine Kd.C_alloc ?_ _) | (with_reducible refine Kd.C_drewN ?_ _) | (with_reducible refine Kd.C_drew ?_))); (case side4 => exact HC0.out); (case side5 => repeat (first | exact (Kd.C_below HR1.out HB.out) | (with_reducible refine Kd.C_alloc ?_ _) | (with_reducible refine Kd.C_drewN ?_ _) | (with_reducible refine Kd.C_drew ?_))); (case side6 => exact HC1.out); rintro e w17 ⟨rfl, hb⟩; have n0_ := Aside0.mk (Kd.R_below (by (with_reducible repeat (first | apply Kd.R_alloc | apply Kd.R_drewN | apply Kd.R_drew)); exact HO449.out) hb); have n1_ := Aside0.mk (below_step (by repeat (first | (with_reducible first | exact HB.out | apply below_alloc | apply pw_below_drewN | apply below_drew1) | exact HB.out)) hb); clear HO449; clear HB; have HO449 := n0_; have HB := n1_; clear n0_ n1_; (try clear hb); (try clear hb2); (try clear hk); (try clear hi))))
      (try simp only [Act.put, List.setIfInBounds_toArray, List.set_cons_zero, List.set_cons_succ])
      go_cut [61] (fun v61 wc => ∃ (kq : Nat) (x61_12 : Bool), v61 = .bool x61_12 ∧ Aside0 (redlinelaw06_MinimalMost.j1 kq l0 l1 l2 t450 x61_12 = some r) ∧ Aside0 (kq ≤ kj5) ∧ Aside0 (Below w.heap.size w wc))
      case first =>
       have H := HC13.out
       clear HC13
       by_cases c18 : t447 = 0
       ·rw [if_pos c18] at H
        have c18b0 : (t447 == 0) = true := beq_iff_eq.mpr c18
        have c18b1 : (t447 != 0) = false := bne_eq_false_iff_eq.mpr c18
        clear c18
        (first | rw [c18b0] | rw [c18b1] | (simp only [i64_w, i32_w]; rw [c18b0]) | skip)
        by_cases c19 : t451 = 0
        ·rw [if_pos c19] at H
         have c19b0 : (t451 == 0) = true := beq_iff_eq.mpr c19
         have c19b1 : (t451 != 0) = false := bne_eq_false_iff_eq.mpr c19
         clear c19
         by_cases c20 : t453 = true
         ·subst c20
          have H1 : (redlinelaw06_MinimalMost.j1 kj5 l0 l1 l2 t450 (t452 != t450)) = some r := by rw [if_pos rfl] at H; exact H
          clear H
          have H := H1
          clear H1
          have H' := Aside0.mk H
          clear H
          go_wp2
          repeat (go_quiet (fail); try go_wp2)
          go_meet
          case rel => exact ⟨_, ((t452 != t450)), (by first | rfl | (simp; done) | (simp [*]; done)), H', ⟨by have := HJ5.out; first | omega | exact Nat.le_refl _⟩, ⟨by repeat (first | (with_reducible first | exact HB.out | apply below_alloc | apply pw_below_drewN | apply below_drew1) | exact HB.out)⟩⟩
         ·replace c20 := Bool.eq_false_iff.mpr c20
          subst c20
          have H1 : (redlinelaw06_MinimalMost.j1 kj5 l0 l1 l2 t450 true) = some r := by rw [if_neg (show ¬ (false = true) by decide)] at H; exact H
          clear H
          have H := H1
          clear H1
          have H' := Aside0.mk H
          clear H
          go_wp2
          repeat (go_quiet (fail); try go_wp2)
          go_meet
          case rel => exact ⟨_, (true), (by first | rfl | (simp; done) | (simp [*]; done)), H', ⟨by have := HJ5.out; first | omega | exact Nat.le_refl _⟩, ⟨by repeat (first | (with_reducible first | exact HB.out | apply below_alloc | apply pw_below_drewN | apply below_drew1) | exact HB.out)⟩⟩
        ·rw [if_neg c19] at H
         have c19b0 : (t451 == 0) = false := beq_eq_false_iff_ne.mpr c19
         have c19b1 : (t451 != 0) = true := bne_iff_ne.mpr c19
         have H' := Aside0.mk H
         clear H
         go_wp2
         repeat (go_quiet (fail); try go_wp2)
         go_meet
         case rel => exact ⟨_, (true), (by first | rfl | (simp; done) | (simp [*]; done)), H', ⟨by have := HJ5.out; first | omega | exact Nat.le_refl _⟩, ⟨by repeat (first | (with_reducible first | exact HB.out | apply below_alloc | apply pw_below_drewN | apply below_drew1) | exact HB.out)⟩⟩
       ·rw [if_neg c18] at H
        have c18b0 : (t447 == 0) = false := beq_eq_false_iff_ne.mpr c18
        have c18b1 : (t447 != 0) = true := bne_iff_ne.mpr c18
        (first | rw [c18b0] | rw [c18b1] | (simp only [i64_w, i32_w]; rw [c18b0]) | skip)
        have H' := Aside0.mk H
        clear H
        go_wp2
        repeat (go_quiet (fail); try go_wp2)
        go_meet
        case rel => exact ⟨_, (true), (by first | rfl | (simp; done) | (simp [*]; done)), H', ⟨by have := HJ5.out; first | omega | exact Nat.le_refl _⟩, ⟨by repeat (first | (with_reducible first | exact HB.out | apply below_alloc | apply pw_below_drewN | apply below_drew1) | exact HB.out)⟩⟩
      case rest =>
       clear HC13
       try clear c1
       try clear c2
       try clear p2
       try clear c5
       try clear c8
       try clear c8b0
       try clear c8b1
       try clear c9
       try clear c18
       try clear c18b0
       try clear c18b1
       try clear c19
       try clear c19b0
       try clear c19b1
       try clear c20
       try clear p2
       obtain ⟨kq, x61_12, rfl, HA, HJ12, HB⟩ := hcut
       cases kq with
       | zero => exact absurd HA.out (by simp [redlinelaw06_MinimalMost.j1])
       | succ kj12 =>
        have H := HA.out
        clear HA
        simp only [redlinelaw06_MinimalMost.j1] at H
        by_cases c21 : x61_12 = true
        ·subst c21
         have H1 : (some false) = some r := by rw [if_pos rfl] at H; exact H
         clear H
         have H := H1
         clear H1
         obtain rfl := Option.some.inj H
         go_wp2
         repeat (go_quiet (fail); try go_wp2)
         go_ret
         exact ⟨by first | rfl | (simp [errW_none, errW_some] <;> rfl) | (simp [*, errW_none, errW_some] <;> rfl), by repeat (first | (with_reducible first | exact HB.out | apply below_alloc | apply pw_below_drewN | apply below_drew1) | exact HB.out)⟩
        ·replace c21 := Bool.eq_false_iff.mpr c21
         subst c21
         have H1 : (redlinelaw06_MinimalMost.l0 kj12 l0 l1 l2 t450 0 0 0) = some r := by rw [if_neg (show ¬ (false = true) by decide)] at H; exact H
         clear H
         have H := H1
         clear H1
         have H' := Aside0.mk H
         clear H
         go_wp2
         repeat (go_quiet (fail); try go_wp2)
         go_loopg [13, 14, 15] kj12 (fun kq v13 v14 v15 w' => ∃ (x13_3 : Int) (x14_3 : Int) (x15_3 : Int), v13 = .int .i64 x13_3 ∧ v14 = .int .i64 x14_3 ∧ v15 = .int .i64 x15_3 ∧ Aside0 (redlinelaw06_MinimalMost.l0 kq l0 l1 l2 t450 x13_3 x14_3 x15_3 = some r) ∧ Aside0 (kq ≤ kj12) ∧ Aside0 (Below w.heap.size w w'))
         case atStart => exact ⟨(0), (0), (0), (by first | rfl | (simp; done) | (simp [*]; done)), (by first | rfl | (simp; done) | (simp [*]; done)), (by first | rfl | (simp; done) | (simp [*]; done)), H', ⟨Nat.le_refl _⟩, ⟨by repeat (first | (with_reducible first | exact HB.out | apply below_alloc | apply pw_below_drewN | apply below_drew1) | exact HB.out)⟩⟩
         case round =>
          clear H'
          try clear c1
          try clear c2
          try clear p2
          try clear c5
          try clear c8
          try clear c8b0
          try clear c8b1
          try clear c9
          try clear c18
          try clear c18b0
          try clear c18b1
          try clear c19
          try clear c19b0
          try clear c19b1
          try clear c20
          try clear c21
          try clear p2
          obtain ⟨x13_3, x14_3, x15_3, rfl, rfl, rfl, HA, HK3, HB⟩ := hrel
          cases gk with
          | zero => exact absurd HA.out (by simp [redlinelaw06_MinimalMost.l0])
          | succ k3 =>
           have H := HA.out
           clear HA
           simp only [redlinelaw06_MinimalMost.l0] at H
           by_cases c22 : x15_3 < (l0.length : Int)
           ·rw [if_pos c22] at H
            have c22b0 : decide (x15_3 < (l0.length : Int)) = true := decide_eq_true c22
            clear c22
            have HC23 := Aside0.mk H
            clear H
            go_upto_if 70 with (fail)
            repeat (go_quiet (fail); go_upto_if 70 with (fail))
            go_cut [16] (fun v16 wc => ∃ (kq : Nat) (x16_22 : Int), v16 = .int .i64 x16_22 ∧ Aside0 (redlinelaw06_MinimalMost.j3 kq l0 l1 l2 t450 x13_3 x14_3 x15_3 x16_22 = some r) ∧ Aside0 (kq ≤ k3) ∧ Aside0 (Below w.heap.size w wc))
            case first =>
             have H := HC23.out
             clear HC23
             by_cases c24 : (l2.length : Int) > 0
             ·rw [if_pos c24] at H
              have c24b0 : decide (0 < (l2.length : Int)) = true := decide_eq_true c24
              have c24b1 : decide (0 < l2.length) = true := decide_eq_true (by omega)
              clear c24
              (first | rw [c24b0] | rw [c24b1] | (simp only [i64_w, i32_w]; rw [c24b0]) | skip)
              by_cases c25 : (l2.length : Int) = 0
              ·rw [if_pos c25] at H
               exact absurd H (by simp)
              ·rw [if_neg c25] at H
               have c25b0 : ((l2.length : Int) == 0) = false := beq_eq_false_iff_ne.mpr c25
               have c25b1 : ((l2.length : Int) != 0) = true := bne_iff_ne.mpr c25
               have c25b2 : ¬ (l2 = []) := fun h_ => c25 (by rw [h_]; rfl)
               obtain ⟨ji26, hji26⟩ : ∃ j_ : Int, (Int.tmod x15_3 (l2.length : Int)) = j_ := ⟨_, rfl⟩
               replace H : (if 0 ≤ (ji26) then (if (ji26) < (l2.length : Int) then (redlinelaw06_MinimalMost.j3 k3 l0 l1 l2 t450 x13_3 x14_3 x15_3 (wrap64 (Int.tmod (IntKind.u64.wrap (rd l2 (ji26))) 4))) else (none)) else (none)) = some r := by first | (rw [hji26] at H; exact H) | (simp only [hji26] at H ⊢; exact H)
               by_cases c27 : 0 ≤ (ji26)
               ·rw [if_pos c27] at H
                have c27b0 : decide (0 ≤ (ji26)) = true := decide_eq_true c27
                clear c27
                by_cases c28 : (ji26) < (l2.length : Int)
                ·rw [if_pos c28] at H
                 have c28b0 : decide ((ji26) < (l2.length : Int)) = true := decide_eq_true c28
                 clear c28
                 have H' := Aside0.mk H
                 clear H
                 have p454 : 0 ≤ ((ji26) : Int) := of_decide_eq_true (by first | (with_reducible assumption) | assumption)
                 have q454 : (ji26) < (l2.length : Int) := of_decide_eq_true (by first | (with_reducible assumption) | assumption)
                 obtain ⟨ad454, e454, hx454_0⟩ := Kd.at_int HR2.out (ji26) p454 q454
                 cases e454
                 replace hx454_0 := (HB.out.cell (World.block_lt_of_cell? w _ hx454_0)).trans hx454_0
                 replace p454 := eq_true p454
                 replace q454 := eq_true q454
                 go_wp2
                 repeat (go_quiet (fail); try go_wp2)
                 go_meet
                 case rel => exact ⟨_, (wrap64 (Int.tmod (IntKind.u64.wrap (rd l2 (ji26))) 4)), (by first | rfl | (simp; done) | (simp only [← hji26] <;> (first | rfl | simp)) | (simp [*]; done)), H', ⟨by have := HJ5.out; have := HJ12.out; have := HK3.out; first | omega | exact Nat.le_refl _⟩, ⟨by repeat (first | (with_reducible first | exact HB.out | apply below_alloc | apply pw_below_drewN | apply below_drew1) | exact HB.out)⟩⟩
                ·rw [if_neg c28] at H
                 exact absurd H (by simp)
               ·rw [if_neg c27] at H
                exact absurd H (by simp)
             ·rw [if_neg c24] at H
              have c24b0 : decide (0 < (l2.length : Int)) = false := decide_eq_false c24
              have c24b1 : decide (0 < l2.length) = false := decide_eq_false (by omega)
              clear c24
              (first | rw [c24b0] | rw [c24b1] | (simp only [i64_w, i32_w]; rw [c24b0]) | skip)
              have H' := Aside0.mk H
              clear H
              go_wp2
              repeat (go_quiet (fail); try go_wp2)
              go_meet
              case rel => exact ⟨_, (0), (by first | rfl | (simp; done) | (simp [*]; done)), H', ⟨by have := HJ5.out; have := HJ12.out; have := HK3.out; first | omega | exact Nat.le_refl _⟩, ⟨by repeat (first | (with_reducible first | exact HB.out | apply below_alloc | apply pw_below_drewN | apply below_drew1) | exact HB.out)⟩⟩
            case rest =>
             clear HC23
             try clear c1
             try clear c2
             try clear p2
             try clear p4
             try clear q4
             try clear hx4
             try clear c5
             try clear p6
             try clear c8
             try clear c8b0
             try clear c8b1
             try clear c9
             try clear c18
             try clear c18b0
             try clear c18b1
             try clear c19
             try clear c19b0
             try clear c19b1
             try clear c20
             try clear c21
             try clear c22
             try clear c22b0
             try clear c24
             try clear c24b0
             try clear c24b1
             try clear c25
             try clear c25b0
             try clear c25b1
             try clear c25b2
             try clear c27
             try clear c27b0
             try clear c28
             try clear c28b0
             try clear hx454_0
             try clear p2
             try clear p454
             try clear q454
             obtain ⟨kq, x16_22, rfl, HA, HJ22, HB⟩ := hcut
             cases kq with
             | zero => exact absurd HA.out (by simp [redlinelaw06_MinimalMost.j3])
             | succ kj22 =>
              have H := HA.out
              clear HA
              simp only [redlinelaw06_MinimalMost.j3] at H
              have H' := Aside0.mk H
              clear H
              go_wp2
              repeat (go_quiet (fail); try go_wp2)
              go_loopg [13, 14, 17] kj22 (fun kq v13 v14 v17 w' => ∃ (x13_5 : Int) (x14_5 : Int) (x17_5 : Int), v13 = .int .i64 x13_5 ∧ v14 = .int .i64 x14_5 ∧ v17 = .int .i64 x17_5 ∧ Aside0 (redlinelaw06_MinimalMost.l1 kq l0 l1 l2 t450 x13_5 x14_5 x15_3 x16_22 x17_5 = some r) ∧ Aside0 (kq ≤ kj22) ∧ Aside0 (Below w.heap.size w w'))
              case atStart => exact ⟨(x13_3), (x14_3), (x14_3), (by first | rfl | (simp; done) | (simp [*]; done)), (by first | rfl | (simp; done) | (simp [*]; done)), (by first | rfl | (simp; done) | (simp [*]; done)), H', ⟨Nat.le_refl _⟩, ⟨by repeat (first | (with_reducible first | exact HB.out | apply below_alloc | apply pw_below_drewN | apply below_drew1) | exact HB.out)⟩⟩
              case round =>
               clear H'
               try clear c1
               try clear c2
               try clear p2
               try clear p4
               try clear q4
               try clear hx4
               try clear c5
               try clear p6
               try clear c8
               try clear c8b0
               try clear c8b1
               try clear c9
               try clear c18
               try clear c18b0
               try clear c18b1
               try clear c19
               try clear c19b0
               try clear c19b1
               try clear c20
               try clear c21
               try clear c22
               try clear c22b0
               try clear c24
               try clear c24b0
               try clear c24b1
               try clear c25
               try clear c25b0
               try clear c25b1
               try clear c25b2
               try clear c27
               try clear c27b0
               try clear c28
               try clear c28b0
               try clear hx454_0
               try clear p2
               try clear p4
               try clear p454
               try clear p6
               try clear q4
               try clear q454
               obtain ⟨x13_5, x14_5, x17_5, rfl, rfl, rfl, HA, HK5, HB⟩ := hrel
               cases gk with
               | zero => exact absurd HA.out (by simp [redlinelaw06_MinimalMost.l1])
               | succ k5 =>
                have H := HA.out
                clear HA
                simp only [redlinelaw06_MinimalMost.l1] at H
                have HC29 := Aside0.mk H
                clear H
                go_upto_region 19 with (fail)
                repeat (go_quiet (fail); go_upto_region 19 with (fail))
                go_cut [93] (fun v93 wc => ∃ (kq : Nat) (x93_28 : Bool), v93 = .bool x93_28 ∧ Aside0 (redlinelaw06_MinimalMost.j5 kq l0 l1 l2 t450 x13_5 x14_5 x15_3 x16_22 x17_5 x93_28 = some r) ∧ Aside0 (kq ≤ k5) ∧ Aside0 (Below w.heap.size w wc))
                case first =>
                 have H := HC29.out
                 clear HC29
                 by_cases c30 : x17_5 < (l1.length : Int)
                 ·rw [if_pos c30] at H
                  have c30b0 : decide (x17_5 < (l1.length : Int)) = true := decide_eq_true c30
                  clear c30
                  (first | rw [c30b0] | rw [c30b1] | (simp only [i64_w, i32_w]; rw [c30b0]) | skip)
                  have H' := Aside0.mk H
                  clear H
                  go_wp2
                  repeat (go_quiet (fail); try go_wp2)
                  go_meet
                  case rel => exact ⟨_, (decide (x17_5 ≤ (wrap64 (x14_5 + (wrap64 (x16_22 * 3)))))), (by first | rfl | (simp; done) | (simp [*]; done)), H', ⟨by have := HJ5.out; have := HJ12.out; have := HK3.out; have := HJ22.out; have := HK5.out; first | omega | exact Nat.le_refl _⟩, ⟨by repeat (first | (with_reducible first | exact HB.out | apply below_alloc | apply pw_below_drewN | apply below_drew1) | exact HB.out)⟩⟩
                 ·rw [if_neg c30] at H
                  have c30b0 : decide (x17_5 < (l1.length : Int)) = false := decide_eq_false c30
                  clear c30
                  (first | rw [c30b0] | rw [c30b1] | (simp only [i64_w, i32_w]; rw [c30b0]) | skip)
                  have H' := Aside0.mk H
                  clear H
                  go_wp2
                  repeat (go_quiet (fail); try go_wp2)
                  go_meet
                  case rel => exact ⟨_, (false), (by first | rfl | (simp; done) | (simp [*]; done)), H', ⟨by have := HJ5.out; have := HJ12.out; have := HK3.out; have := HJ22.out; have := HK5.out; first | omega | exact Nat.le_refl _⟩, ⟨by repeat (first | (with_reducible first | exact HB.out | apply below_alloc | apply pw_below_drewN | apply below_drew1) | exact HB.out)⟩⟩
                case rest =>
                 clear HC29
                 try clear c1
                 try clear c2
                 try clear p2
                 try clear c3
                 try clear p4
                 try clear q4
                 try clear hx4
                 try clear c5
                 try clear p6
                 try clear c8
                 try clear c8b0
                 try clear c8b1
                 try clear c9
                 try clear c18
                 try clear c18b0
                 try clear c18b1
                 try clear c19
                 try clear c19b0
                 try clear c19b1
                 try clear c20
                 try clear c21
                 try clear c22
                 try clear c22b0
                 try clear c24
                 try clear c24b0
                 try clear c24b1
                 try clear c25
                 try clear c25b0
                 try clear c25b1
                 try clear c25b2
                 try clear c27
                 try clear c27b0
                 try clear c28
                 try clear c28b0
                 try clear c30
                 try clear c30b0
                 try clear c30b1
                 try clear hx454_0
                 try clear p2
                 try clear p4
                 try clear p454
                 try clear p6
                 try clear q4
                 try clear q454
                 obtain ⟨kq, x93_28, rfl, HA, HJ28, HB⟩ := hcut
                 cases kq with
                 | zero => exact absurd HA.out (by simp [redlinelaw06_MinimalMost.j5])
                 | succ kj28 =>
                  have H := HA.out
                  clear HA
                  simp only [redlinelaw06_MinimalMost.j5] at H
                  by_cases c31 : x93_28 = true
                  ·subst c31
                   have H1 : (if 0 ≤ x15_3 then (if x15_3 < (l0.length : Int) then (if 0 ≤ x17_5 then (if x17_5 < (l1.length : Int) then (if (rd l0 x15_3) = (rd l1 x17_5) then (redlinelaw06_MinimalMost.l0 kj28 l0 l1 l2 t450 (wrap64 (x13_5 + 1)) (wrap64 (x17_5 + 1)) (wrap64 (x15_3 + 1))) else (redlinelaw06_MinimalMost.l1 kj28 l0 l1 l2 t450 x13_5 x14_5 x15_3 x16_22 (wrap64 (x17_5 + 1)))) else (none)) else (none)) else (none)) else (none)) = some r := by rw [if_pos rfl] at H; exact H
                   clear H
                   have H := H1
                   clear H1
                   by_cases c32 : 0 ≤ x15_3
                   ·rw [if_pos c32] at H
                    have c32b0 : decide (0 ≤ x15_3) = true := decide_eq_true c32
                    clear c32
                    by_cases c33 : x15_3 < (l0.length : Int)
                    ·rw [if_pos c33] at H
                     have c33b0 : decide (x15_3 < (l0.length : Int)) = true := decide_eq_true c33
                     clear c33
                     by_cases c34 : 0 ≤ x17_5
                     ·rw [if_pos c34] at H
                      have c34b0 : decide (0 ≤ x17_5) = true := decide_eq_true c34
                      clear c34
                      by_cases c35 : x17_5 < (l1.length : Int)
                      ·rw [if_pos c35] at H
                       have c35b0 : decide (x17_5 < (l1.length : Int)) = true := decide_eq_true c35
                       clear c35
                       by_cases c36 : (rd l0 x15_3) = (rd l1 x17_5)
                       ·rw [if_pos c36] at H
                        have c36b0 : ((rd l0 x15_3) == (rd l1 x17_5)) = true := beq_iff_eq.mpr c36
                        have c36b1 : ((rd l0 x15_3) != (rd l1 x17_5)) = false := bne_eq_false_iff_eq.mpr c36
                        clear c36
                        have H' := Aside0.mk H
                        clear H
                        have p455 : 0 ≤ (x15_3 : Int) := of_decide_eq_true (by first | (with_reducible assumption) | assumption)
                        have q455 : x15_3 < (l0.length : Int) := of_decide_eq_true (by first | (with_reducible assumption) | assumption)
                        obtain ⟨ad455, e455, hx455_0⟩ := Kd.at_int HR0.out x15_3 p455 q455
                        cases e455
                        replace hx455_0 := (HB.out.cell (World.block_lt_of_cell? w _ hx455_0)).trans hx455_0
                        replace p455 := eq_true p455
                        replace q455 := eq_true q455
                        have p456 : 0 ≤ (x17_5 : Int) := of_decide_eq_true (by first | (with_reducible assumption) | assumption)
                        have q456 : x17_5 < (l1.length : Int) := of_decide_eq_true (by first | (with_reducible assumption) | assumption)
                        obtain ⟨ad456, e456, hx456_0⟩ := Kd.at_int HR1.out x17_5 p456 q456
                        cases e456
                        replace hx456_0 := (HB.out.cell (World.block_lt_of_cell? w _ hx456_0)).trans hx456_0
                        replace p456 := eq_true p456
                        replace q456 := eq_true q456
                        go_wp2
                        repeat (go_quiet (fail); try go_wp2)
                        go_roundg kj28
                        case measure => have := HJ5.out; have := HJ12.out; have := HK3.out; have := HJ22.out; have := HK5.out; have := HJ28.out; omega
                        case rel => exact ⟨(wrap64 (x13_5 + 1)), (wrap64 (x17_5 + 1)), (wrap64 (x15_3 + 1)), (by first | rfl | (simp; done) | (simp [*]; done)), (by first | rfl | (simp; done) | (simp [*]; done)), (by first | rfl | (simp; done) | (simp [*]; done)), H', ⟨by have := HJ5.out; have := HJ12.out; have := HK3.out; have := HJ22.out; have := HK5.out; have := HJ28.out; omega⟩, ⟨by repeat (first | (with_reducible first | exact HB.out | apply below_alloc | apply pw_below_drewN | apply below_drew1) | exact HB.out)⟩⟩
                       ·rw [if_neg c36] at H
                        have c36b0 : ((rd l0 x15_3) == (rd l1 x17_5)) = false := beq_eq_false_iff_ne.mpr c36
                        have c36b1 : ((rd l0 x15_3) != (rd l1 x17_5)) = true := bne_iff_ne.mpr c36
                        have H' := Aside0.mk H
                        clear H
                        have p455 : 0 ≤ (x15_3 : Int) := of_decide_eq_true (by first | (with_reducible assumption) | assumption)
                        have q455 : x15_3 < (l0.length : Int) := of_decide_eq_true (by first | (with_reducible assumption) | assumption)
                        obtain ⟨ad455, e455, hx455_0⟩ := Kd.at_int HR0.out x15_3 p455 q455
                        cases e455
                        replace hx455_0 := (HB.out.cell (World.block_lt_of_cell? w _ hx455_0)).trans hx455_0
                        replace p455 := eq_true p455
                        replace q455 := eq_true q455
                        have p456 : 0 ≤ (x17_5 : Int) := of_decide_eq_true (by first | (with_reducible assumption) | assumption)
                        have q456 : x17_5 < (l1.length : Int) := of_decide_eq_true (by first | (with_reducible assumption) | assumption)
                        obtain ⟨ad456, e456, hx456_0⟩ := Kd.at_int HR1.out x17_5 p456 q456
                        cases e456
                        replace hx456_0 := (HB.out.cell (World.block_lt_of_cell? w _ hx456_0)).trans hx456_0
                        replace p456 := eq_true p456
                        replace q456 := eq_true q456
                        go_wp2
                        repeat (go_quiet (fail); try go_wp2)
                        go_roundg kj28
                        case measure => have := HJ5.out; have := HJ12.out; have := HK3.out; have := HJ22.out; have := HK5.out; have := HJ28.out; omega
                        case rel => exact ⟨(x13_5), (x14_5), (wrap64 (x17_5 + 1)), (by first | rfl | (simp; done) | (simp [*]; done)), (by first | rfl | (simp; done) | (simp [*]; done)), (by first | rfl | (simp; done) | (simp [*]; done)), H', ⟨by have := HJ5.out; have := HJ12.out; have := HK3.out; have := HJ22.out; have := HK5.out; have := HJ28.out; omega⟩, ⟨by repeat (first | (with_reducible first | exact HB.out | apply below_alloc | apply pw_below_drewN | apply below_drew1) | exact HB.out)⟩⟩
                      ·rw [if_neg c35] at H
                       exact absurd H (by simp)
                     ·rw [if_neg c34] at H
                      exact absurd H (by simp)
                    ·rw [if_neg c33] at H
                     exact absurd H (by simp)
                   ·rw [if_neg c32] at H
                    exact absurd H (by simp)
                  ·replace c31 := Bool.eq_false_iff.mpr c31
                   subst c31
                   have H1 : (redlinelaw06_MinimalMost.l0 kj28 l0 l1 l2 t450 x13_5 x14_5 (wrap64 (x15_3 + 1))) = some r := by rw [if_neg (show ¬ (false = true) by decide)] at H; exact H
                   clear H
                   have H := H1
                   clear H1
                   have H' := Aside0.mk H
                   clear H
                   go_wp2
                   repeat (go_quiet (fail); try go_wp2)
                   go_roundg kj28
                   case measure => have := HJ5.out; have := HJ12.out; have := HK3.out; have := HJ22.out; have := HK5.out; have := HJ28.out; omega
                   case rel => exact ⟨(x13_5), (x14_5), (wrap64 (x15_3 + 1)), (by first | rfl | (simp; done) | (simp [*]; done)), (by first | rfl | (simp; done) | (simp [*]; done)), (by first | rfl | (simp; done) | (simp [*]; done)), H', ⟨by have := HJ5.out; have := HJ12.out; have := HK3.out; have := HJ22.out; have := HK5.out; have := HJ28.out; omega⟩, ⟨by repeat (first | (with_reducible first | exact HB.out | apply below_alloc | apply pw_below_drewN | apply below_drew1) | exact HB.out)⟩⟩
           ·rw [if_neg c22] at H
            have c22b0 : decide (x15_3 < (l0.length : Int)) = false := decide_eq_false c22
            clear c22
            obtain rfl := Option.some.inj H
            go_wp2
            repeat (go_quiet (fail); try go_wp2)
            go_ret
            exact ⟨by first | rfl | (simp [errW_none, errW_some] <;> rfl) | (simp [*, errW_none, errW_some] <;> rfl), by repeat (first | (with_reducible first | exact HB.out | apply below_alloc | apply pw_below_drewN | apply below_drew1) | exact HB.out)⟩
  ·replace c5 := Bool.eq_false_iff.mpr c5
   subst c5
   have H1 : (some false) = some r := by rw [if_neg (show ¬ (false = true) by decide)] at H; exact H
   clear H
   have H := H1
   clear H1
   obtain rfl := Option.some.inj H
   go_enter Try.func9, Try.ntmps9
   go_wp2_with (first | (go_at_call 26; (with_reducible refine (redlinelaw06_works.calls k  false _ A4.out).mono ?_); rintro e w37 ⟨rfl, hb⟩; have n0_ := Aside0.mk (below_step (by repeat (first | (with_reducible first | exact HB.out | apply below_alloc | apply pw_below_drewN | apply below_drew1) | exact HB.out)) hb); clear HB; have HB := n0_; clear n0_; (try clear hb); (try clear hb2); (try clear hk); (try clear hi)))
   repeat (go_quiet (first | (go_at_call 26; (with_reducible refine (redlinelaw06_works.calls k  false _ A4.out).mono ?_); rintro e w37 ⟨rfl, hb⟩; have n0_ := Aside0.mk (below_step (by repeat (first | (with_reducible first | exact HB.out | apply below_alloc | apply pw_below_drewN | apply below_drew1) | exact HB.out)) hb); clear HB; have HB := n0_; clear n0_; (try clear hb); (try clear hb2); (try clear hk); (try clear hi))); try go_wp2_with (first | (go_at_call 26; (with_reducible refine (redlinelaw06_works.calls k  false _ A4.out).mono ?_); rintro e w37 ⟨rfl, hb⟩; have n0_ := Aside0.mk (below_step (by repeat (first | (with_reducible first | exact HB.out | apply below_alloc | apply pw_below_drewN | apply below_drew1) | exact HB.out)) hb); clear HB; have HB := n0_; clear n0_; (try clear hb); (try clear hb2); (try clear hk); (try clear hi))))
   go_ret
   exact ⟨by first | rfl | (simp [errW_none, errW_some] <;> rfl) | (simp [*, errW_none, errW_some] <;> rfl), by repeat (first | (with_reducible first | exact HB.out | apply below_alloc | apply pw_below_drewN | apply below_drew1) | exact HB.out)⟩

/-- THE ONE PURE STATEMENT of redlinelaw06_MinimalMost: yours. -/
def redlinelaw06_MinimalMost.Pure : Prop := ∀ (l0 : List Int) (l1 : List Int) (l2 : List Int), l0.length ≤ maxLen → l0.length * 8 ≤ 140737488351232 → (∀ x ∈ l0, (Lit.int .i64 x).wf = true) → l1.length ≤ maxLen → l1.length * 8 ≤ 140737488351232 → (∀ x ∈ l1, (Lit.int .i64 x).wf = true) → l2.length ≤ maxLen → l2.length * 8 ≤ 140737488351232 → (∀ x ∈ l2, (Lit.int .i64 x).wf = true) → ∃ k, redlinelaw06_MinimalMost.f k l0 l1 l2 = some true
theorem redlinelaw06_MinimalMost.walk (P : redlinelaw06_MinimalMost.Pure) (a0 : Option Addr) (len0 cap0 : Nat) (z0 : List Int) (a1 : Option Addr) (len1 cap1 : Nat) (z1 : List Int) (a2 : Option Addr) (len2 cap2 : Nat) (z2 : List Int) (w : World) (w0 : (a0 = none ∧ len0 = 0 ∧ cap0 = 0 ∧ z0 = []) ∨ ∃ x, a0 = some x ∧ len0 ≤ cap0 ∧ cap0 ≤ maxLen ∧ z0.length = cap0 ∧ (∀ i, i < z0.length → w.cell? (x.add i) = some (.int .i64 (z0.getD i 0))) ∧ ∀ n ∈ z0, (Lit.int .i64 n).wf = true) (y0 : len0 * 8 ≤ 140737488351232) (w1 : (a1 = none ∧ len1 = 0 ∧ cap1 = 0 ∧ z1 = []) ∨ ∃ x, a1 = some x ∧ len1 ≤ cap1 ∧ cap1 ≤ maxLen ∧ z1.length = cap1 ∧ (∀ i, i < z1.length → w.cell? (x.add i) = some (.int .i64 (z1.getD i 0))) ∧ ∀ n ∈ z1, (Lit.int .i64 n).wf = true) (y1 : len1 * 8 ≤ 140737488351232) (w2 : (a2 = none ∧ len2 = 0 ∧ cap2 = 0 ∧ z2 = []) ∨ ∃ x, a2 = some x ∧ len2 ≤ cap2 ∧ cap2 ≤ maxLen ∧ z2.length = cap2 ∧ (∀ i, i < z2.length → w.cell? (x.add i) = some (.int .i64 (z2.getD i 0))) ∧ ∀ n ∈ z2, (Lit.int .i64 n).wf = true) (y2 : len2 * 8 ≤ 140737488351232) :
    Calls Try.prog 9 #[.slice a0 len0 cap0, .slice a1 len1 cap1, .slice a2 len2 cap2] w fun e w' => e = .returned (.bool true) ∧ Below w.heap.size w w' := by
  obtain ⟨l0, rfl, hr0, hm0, hw0, hc0⟩ := ReadsInt.ofRowC w0
  obtain ⟨l1, rfl, hr1, hm1, hw1, hc1⟩ := ReadsInt.ofRowC w1
  obtain ⟨l2, rfl, hr2, hm2, hw2, hc2⟩ := ReadsInt.ofRowC w2
  obtain ⟨k, h⟩ := P l0 l1 l2 hm0 y0 hw0 hm1 y1 hw1 hm2 y2 hw2
  refine (redlinelaw06_MinimalMost.calls k _ _ l0 _ _ l1 _ _ l2 true w (Kd.C_of_reads (d := (0 : Int)) (h1 := fun _ => rfl) hr0) hc0 (Kd.C_of_reads (d := (0 : Int)) (h1 := fun _ => rfl) hr1) hc1 (Kd.C_of_reads (d := (0 : Int)) (h1 := fun _ => rfl) hr2) hc2 h).mono ?_
  rintro e w' ⟨rfl, hd⟩
  exact ⟨rfl, hd⟩

end Go.Proofs.Ytdcldoembdifpaa.X
