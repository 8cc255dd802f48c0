-- printed by xprint.py, a program of this session's own over the kit's print
import Derived.Test.YtdcldoembdifpaaXx0
import Derived.Test.YtdcldoembdifpaaXx17
import Derived.Test.YtdcldoembdifpaaXx27
namespace Go.Proofs.Ytdcldoembdifpaa.X
open Go.RowKit Go.Proofs.YtdcldoembdifpaaW.PrintWords Go.Proofs.YtdcldoembdifpaaW.PrintLast Go.Proofs.YtdcldoembdifpaaW.PrintMore
attribute [local go_sem] max2_int min2_int max_two min_two max_three min_three max_four min_four   -- for this text's walks alone
open Go.Proofs.YtdcldoembdifpaaW.HandWords
set_option linter.unusedVariables false
set_option linter.unusedSimpArgs false

/-! ### redlinelaw06_MinimalSteps: function 8 -/
mutual
def redlinelaw06_MinimalSteps.j0 : Nat → List Int → List Int → Int → Int → List Int → List Int → Bool → Option (Bool)
  | 0, _, _, _, _, _, _, _ => none
  | k + 1, x0, x1, x2, x3, x4, x5, x41 => if x41 = true then (some true) else ((minimal_Length.f k x0 x1).bind fun bt398 => (if (IntKind.u64.wrap (wrap64 ((x0.length : Int) + 1))) = 0 then (none) else ((some (([] : List Int) : List Int)).bind fun y400 => (if 0 ≤ (wrap64 (Int.tmod (IntKind.u64.wrap (x2)) (IntKind.u64.wrap (wrap64 ((x0.length : Int) + 1))))) then (if (wrap64 (Int.tmod (IntKind.u64.wrap (x2)) (IntKind.u64.wrap (wrap64 ((x0.length : Int) + 1))))) ≤ (x0.length : Int) then (if y400.length + (x0.take ((wrap64 (Int.tmod (IntKind.u64.wrap (x2)) (IntKind.u64.wrap (wrap64 ((x0.length : Int) + 1))))) : Int).toNat).length < 17592186044416 then ((some (y400 ++ (x0.take ((wrap64 (Int.tmod (IntKind.u64.wrap (x2)) (IntKind.u64.wrap (wrap64 ((x0.length : Int) + 1))))) : Int).toNat) : List Int)).bind fun y404 => ((some (([x3] : List Int) : List Int)).bind fun y407 => (if y404.length + y407.length < 17592186044416 then ((some (y404 ++ y407 : List Int)).bind fun y410 => (if y410.length + (x0.drop ((wrap64 (Int.tmod (IntKind.u64.wrap (x2)) (IntKind.u64.wrap (wrap64 ((x0.length : Int) + 1))))) : Int).toNat).length < 17592186044416 then ((minimal_Length.f k (y410 ++ (x0.drop ((wrap64 (Int.tmod (IntKind.u64.wrap (x2)) (IntKind.u64.wrap (wrap64 ((x0.length : Int) + 1))))) : Int).toNat)) x1).bind fun bt417 => ((minimal_Length.f k x4 x5).bind fun bt419 => ((some (([] : List Int) : List Int)).bind fun y421 => (if y421.length + x0.length < 17592186044416 then ((some (y421 ++ x0 : List Int)).bind fun y424 => (if y424.length + x4.length < 17592186044416 then ((some (([] : List Int) : List Int)).bind fun y430 => (if y430.length + x1.length < 17592186044416 then ((some (y430 ++ x1 : List Int)).bind fun y433 => (if y433.length + x5.length < 17592186044416 then ((minimal_Length.f k (y424 ++ x4) (y433 ++ x5)).bind fun bt439 => (if bt398.2 = 0 then (if bt417.2 = 0 then (if bt419.2 = 0 then (if bt439.2 = 0 then (if bt417.1 = bt398.1 then (redlinelaw06_MinimalSteps.j1 k (decide (bt439.1 ≥ (wrap64 (bt398.1 + bt419.1))))) else (if bt417.1 = (wrap64 (bt398.1 + 1)) then (redlinelaw06_MinimalSteps.j1 k (decide (bt439.1 ≥ (wrap64 (bt398.1 + bt419.1))))) else (redlinelaw06_MinimalSteps.j1 k false))) else (redlinelaw06_MinimalSteps.j1 k false)) else (redlinelaw06_MinimalSteps.j1 k false)) else (redlinelaw06_MinimalSteps.j1 k false)) else (redlinelaw06_MinimalSteps.j1 k false))) else (none))) else (none))) else (none))) else (none))))) else (none))) else (none)))) else (none)) else (none)) else (none)))))
def redlinelaw06_MinimalSteps.j1 : Nat → Bool → Option (Bool)
  | 0, _ => none
  | k + 1, x12 => some x12
end
def redlinelaw06_MinimalSteps.f (k : Nat) (l0 : List Int) (l1 : List Int) (a2 : Int) (a3 : Int) (l4 : List Int) (l5 : List Int) : Option (Bool) := (redlinelaw06_works.f k).bind fun t397 => (if t397 = true then (if (l0.length : Int) > 200 then (redlinelaw06_MinimalSteps.j0 k l0 l1 a2 a3 l4 l5 true) else (if (l1.length : Int) > 200 then (redlinelaw06_MinimalSteps.j0 k l0 l1 a2 a3 l4 l5 true) else (if (l4.length : Int) > 100 then (redlinelaw06_MinimalSteps.j0 k l0 l1 a2 a3 l4 l5 true) else (redlinelaw06_MinimalSteps.j0 k l0 l1 a2 a3 l4 l5 (decide ((l5.length : Int) > 100)))))) else (some false))
theorem redlinelaw06_MinimalSteps.mono_l : ∀ k, (∀ y0 y1 y2 y3 y4 y5 y6, LeO (redlinelaw06_MinimalSteps.j0 k y0 y1 y2 y3 y4 y5 y6) (redlinelaw06_MinimalSteps.j0 (k + 1) y0 y1 y2 y3 y4 y5 y6)) ∧ (∀ y0, LeO (redlinelaw06_MinimalSteps.j1 k y0) (redlinelaw06_MinimalSteps.j1 (k + 1) y0))
  | 0 => ⟨fun _ _ _ _ _ _ _ r h => by simp [redlinelaw06_MinimalSteps.j0] at h, fun _ r h => by simp [redlinelaw06_MinimalSteps.j1] at h⟩
  | k + 1 => by
    obtain ⟨ih0, ih1⟩ := redlinelaw06_MinimalSteps.mono_l k
    refine ⟨?_, ?_⟩
    · intro y0 y1 y2 y3 y4 y5 y6
      unfold redlinelaw06_MinimalSteps.j0
      repeat' first
      | (with_reducible exact ih0 _ _ _ _ _ _ _)
      | (with_reducible exact ih1 _)
      | (with_reducible exact minimal_Length.mono _ _ _)
      | (with_reducible exact redlinelaw06_works.mono _)
      | (with_reducible exact LeO.refl _)
      | (with_reducible exact LeO.none _)
      | (with_reducible refine LeO.ite ?_ ?_)
      | (with_reducible refine LeO.bind ?_ (fun _ => ?_))
      | exact ih0 _ _ _ _ _ _ _
      | exact ih1 _
      | exact minimal_Length.mono _ _ _
      | exact redlinelaw06_works.mono _
      | exact LeO.none _
      | refine LeO.ite ?_ ?_
      | refine LeO.bind ?_ (fun _ => ?_)
    · intro y0
      unfold redlinelaw06_MinimalSteps.j1
      repeat' first
      | (with_reducible exact ih0 _ _ _ _ _ _ _)
      | (with_reducible exact ih1 _)
      | (with_reducible exact minimal_Length.mono _ _ _)
      | (with_reducible exact redlinelaw06_works.mono _)
      | (with_reducible exact LeO.refl _)
      | (with_reducible exact LeO.none _)
      | (with_reducible refine LeO.ite ?_ ?_)
      | (with_reducible refine LeO.bind ?_ (fun _ => ?_))
      | exact ih0 _ _ _ _ _ _ _
      | exact ih1 _
      | exact minimal_Length.mono _ _ _
      | exact redlinelaw06_works.mono _
      | exact LeO.none _
      | refine LeO.ite ?_ ?_
      | refine LeO.bind ?_ (fun _ => ?_)
theorem redlinelaw06_MinimalSteps.mono : ∀ a0 a1 a2 a3 a4 a5 k, LeO (redlinelaw06_MinimalSteps.f k a0 a1 a2 a3 a4 a5) (redlinelaw06_MinimalSteps.f (k + 1) a0 a1 a2 a3 a4 a5) := by
  intro a0 a1 a2 a3 a4 a5 k
  obtain ⟨ih0, ih1⟩ := redlinelaw06_MinimalSteps.mono_l k
  unfold redlinelaw06_MinimalSteps.f
  repeat' first
      | (with_reducible exact ih0 _ _ _ _ _ _ _)
      | (with_reducible exact ih1 _)
      | (with_reducible exact minimal_Length.mono _ _ _)
      | (with_reducible exact redlinelaw06_works.mono _)
      | (with_reducible exact LeO.refl _)
      | (with_reducible exact LeO.none _)
      | (with_reducible refine LeO.ite ?_ ?_)
      | (with_reducible refine LeO.bind ?_ (fun _ => ?_))
      | exact ih0 _ _ _ _ _ _ _
      | exact ih1 _
      | exact minimal_Length.mono _ _ _
      | exact redlinelaw06_works.mono _
      | exact LeO.none _
      | refine LeO.ite ?_ ?_
      | refine LeO.bind ?_ (fun _ => ?_)
def redlinelaw06_MinimalSteps.T7 : Bool × List (List Nat × List Nat) := (true, [([], []), ([], []), ([], []), ([1, 2], [1, 2]), ([0, 3], [0, 3]), ([], []), ([5], [5]), ([4, 6, 4], [4, 6]), ([], []), ([], []), ([8, 9], [8, 9]), ([7, 10, 7], [7, 10]), ([], []), ([11, 12, 11], [11, 12]), ([13], [13]), ([14], [14]), ([14], [14]), ([15, 13, 0, 1, 2, 3, 4, 5, 6, 7, 8, 9, 10, 11, 12, 13, 14, 15], [15]), ([16, 17, 0, 1, 2, 3, 4, 5, 6, 7, 8, 9, 10, 11, 12, 13, 14, 15, 16, 17], [16])])
def redlinelaw06_MinimalSteps.B7 : List Nat := [0, 0, 0, 6, 15, 0, 32, 127, 0, 0, 768, 2047, 0, 8191, 16383, 32767, 32767, 65535, 262143]
theorem redlinelaw06_MinimalSteps.tab7 : rtab .any (opsOf Try.f8 7) = redlinelaw06_MinimalSteps.T7 := by kernel_rfl
theorem redlinelaw06_MinimalSteps.bits7 : waitsOk redlinelaw06_MinimalSteps.T7.2 redlinelaw06_MinimalSteps.B7 = true := by kernel_rfl
set_option maxHeartbeats 8000000 in
set_option maxRecDepth 100000 in
theorem redlinelaw06_MinimalSteps.calls (k : Nat) (A0 : Option Addr) (c0 : Nat) (l0 : List Int) (A1 : Option Addr) (c1 : Nat) (l1 : List Int) (a2 : Int) (a3 : Int) (A4 : Option Addr) (c4 : Nat) (l4 : List Int) (A5 : Option Addr) (c5 : Nat) (l5 : List Int) (r : Bool) (w : World) (hr0 : Kd.C (Kd.int .i64) w A0 l0.length l0) (hc0 : l0.length ≤ c0) (hr1 : Kd.C (Kd.int .i64) w A1 l1.length l1) (hc1 : l1.length ≤ c1) (hr4 : Kd.C (Kd.int .i64) w A4 l4.length l4) (hc4 : l4.length ≤ c4) (hr5 : Kd.C (Kd.int .i64) w A5 l5.length l5) (hc5 : l5.length ≤ c5) (h : redlinelaw06_MinimalSteps.f k l0 l1 a2 a3 l4 l5 = some r) :
    Calls Try.prog 8 #[.slice A0 l0.length c0, .slice A1 l1.length c1, .int .i64 a2, .int .i64 a3, .slice A4 l4.length c4, .slice A5 l5.length c5] w fun e w' => e = .returned (.bool r) ∧ Below w.heap.size w w' := by
  have HR0 := Aside0.mk hr0
  have HC0 := Aside0.mk hc0
  clear hr0 hc0
  have HR1 := Aside0.mk hr1
  have HC1 := Aside0.mk hc1
  clear hr1 hc1
  have HR4 := Aside0.mk hr4
  have HC4 := Aside0.mk hc4
  clear hr4 hc4
  have HR5 := Aside0.mk hr5
  have HC5 := Aside0.mk hc5
  clear hr5 hc5
  have HB := Aside0.mk (Below.refl w.heap.size w)
  have H : ((redlinelaw06_works.f k).bind fun t397 => (if t397 = true then (if (l0.length : Int) > 200 then (redlinelaw06_MinimalSteps.j0 k l0 l1 a2 a3 l4 l5 true) else (if (l1.length : Int) > 200 then (redlinelaw06_MinimalSteps.j0 k l0 l1 a2 a3 l4 l5 true) else (if (l4.length : Int) > 100 then (redlinelaw06_MinimalSteps.j0 k l0 l1 a2 a3 l4 l5 true) else (redlinelaw06_MinimalSteps.j0 k l0 l1 a2 a3 l4 l5 (decide ((l5.length : Int) > 100)))))) else (some false))) = some r := h
  clear h
  replace H := Option.bind_eq_some_iff.mp H
  obtain ⟨t397, A70, H⟩ := H
  replace H : (if t397 = true then (if (l0.length : Int) > 200 then (redlinelaw06_MinimalSteps.j0 k l0 l1 a2 a3 l4 l5 true) else (if (l1.length : Int) > 200 then (redlinelaw06_MinimalSteps.j0 k l0 l1 a2 a3 l4 l5 true) else (if (l4.length : Int) > 100 then (redlinelaw06_MinimalSteps.j0 k l0 l1 a2 a3 l4 l5 true) else (redlinelaw06_MinimalSteps.j0 k l0 l1 a2 a3 l4 l5 (decide ((l5.length : Int) > 100)))))) else (some false)) = some r := H
  have A7 := Aside0.mk A70
  clear A70
  by_cases c8 : t397 = true
  ·subst c8
   have H1 : (if (l0.length : Int) > 200 then (redlinelaw06_MinimalSteps.j0 k l0 l1 a2 a3 l4 l5 true) else (if (l1.length : Int) > 200 then (redlinelaw06_MinimalSteps.j0 k l0 l1 a2 a3 l4 l5 true) else (if (l4.length : Int) > 100 then (redlinelaw06_MinimalSteps.j0 k l0 l1 a2 a3 l4 l5 true) else (redlinelaw06_MinimalSteps.j0 k l0 l1 a2 a3 l4 l5 (decide ((l5.length : Int) > 100)))))) = some r := by rw [if_pos rfl] at H; exact H
   clear H
   have H := H1
   clear H1
   have HC9 := Aside0.mk H
   clear H
   go_enter Try.func8, Try.ntmps8
   go_upto_region 3 with (first | ((with_reducible refine gate_callee (f := 26) rfl ?_); refine goesL_ (some 22) rfl rfl Try.func26 (by kernel_rfl) rfl #[] rfl (by (try simp only [List.map_toArray, List.map_cons, List.map_nil]); first | done | rfl | (simp only [List.length_drop, List.length_take]; rfl)) ?_; (with_reducible refine (redlinelaw06_works.calls k  true _ A7.out).mono ?_); rintro e w10 ⟨rfl, hb⟩; refine ⟨_, rfl, ?_⟩; have n0_ := Aside0.mk (below_step (by repeat (first | (with_reducible first | exact HB.out | apply below_alloc | apply pw_below_drewN | apply below_drew1) | exact HB.out)) hb); clear HB; have HB := n0_; clear n0_; (try clear hb); (try clear hb2); (try clear hk); (try clear hi)))
   (try simp only [Act.put, List.setIfInBounds_toArray, List.set_cons_zero, List.set_cons_succ])
   go_cut [41] (fun v41 wc => ∃ (kq : Nat) (x41_8 : Bool), v41 = .bool x41_8 ∧ Aside0 (redlinelaw06_MinimalSteps.j0 kq l0 l1 a2 a3 l4 l5 x41_8 = some r) ∧ Aside0 (kq ≤ k) ∧ Aside0 (Below w.heap.size w wc))
   case first =>
    have H := HC9.out
    clear HC9
    by_cases c11 : (l0.length : Int) > 200
    ·rw [if_pos c11] at H
     have c11b0 : decide (200 < (l0.length : Int)) = true := decide_eq_true c11
     have c11b1 : decide (200 < l0.length) = true := decide_eq_true (by omega)
     clear c11
     (first | rw [c11b0] | rw [c11b1] | (simp only [i64_w, i32_w]; rw [c11b0]) | skip)
     have H' := Aside0.mk H
     clear H
     go_wp2
     go_meet
     case rel => exact ⟨_, (true), (by first | rfl | (simp; done) | (simp [*]; done)), H', ⟨by first | omega | exact Nat.le_refl _⟩, ⟨by repeat (first | (with_reducible first | exact HB.out | apply below_alloc | apply pw_below_drewN | apply below_drew1) | exact HB.out)⟩⟩
    ·rw [if_neg c11] at H
     have c11b0 : decide (200 < (l0.length : Int)) = false := decide_eq_false c11
     have c11b1 : decide (200 < l0.length) = false := decide_eq_false (by omega)
     clear c11
     (first | rw [c11b0] | rw [c11b1] | (simp only [i64_w, i32_w]; rw [c11b0]) | skip)
     by_cases c12 : (l1.length : Int) > 200
     ·rw [if_pos c12] at H
      have c12b0 : decide (200 < (l1.length : Int)) = true := decide_eq_true c12
      have c12b1 : decide (200 < l1.length) = true := decide_eq_true (by omega)
      clear c12
      have H' := Aside0.mk H
      clear H
      go_wp2
      go_meet
      case rel => exact ⟨_, (true), (by first | rfl | (simp; done) | (simp [*]; done)), H', ⟨by first | omega | exact Nat.le_refl _⟩, ⟨by repeat (first | (with_reducible first | exact HB.out | apply below_alloc | apply pw_below_drewN | apply below_drew1) | exact HB.out)⟩⟩
     ·rw [if_neg c12] at H
      have c12b0 : decide (200 < (l1.length : Int)) = false := decide_eq_false c12
      have c12b1 : decide (200 < l1.length) = false := decide_eq_false (by omega)
      clear c12
      by_cases c13 : (l4.length : Int) > 100
      ·rw [if_pos c13] at H
       have c13b0 : decide (100 < (l4.length : Int)) = true := decide_eq_true c13
       have c13b1 : decide (100 < l4.length) = true := decide_eq_true (by omega)
       clear c13
       have H' := Aside0.mk H
       clear H
       go_wp2
       go_meet
       case rel => exact ⟨_, (true), (by first | rfl | (simp; done) | (simp [*]; done)), H', ⟨by first | omega | exact Nat.le_refl _⟩, ⟨by repeat (first | (with_reducible first | exact HB.out | apply below_alloc | apply pw_below_drewN | apply below_drew1) | exact HB.out)⟩⟩
      ·rw [if_neg c13] at H
       have c13b0 : decide (100 < (l4.length : Int)) = false := decide_eq_false c13
       have c13b1 : decide (100 < l4.length) = false := decide_eq_false (by omega)
       clear c13
       have H' := Aside0.mk H
       clear H
       go_wp2
       go_meet
       case rel => exact ⟨_, (decide ((l5.length : Int) > 100)), (by first | rfl | (simp; done) | (simp [*]; done)), H', ⟨by first | omega | exact Nat.le_refl _⟩, ⟨by repeat (first | (with_reducible first | exact HB.out | apply below_alloc | apply pw_below_drewN | apply below_drew1) | exact HB.out)⟩⟩
   case rest =>
    clear HC9
    try clear c1
    try clear c2
    try clear p2
    try clear c4
    try clear c5
    try clear c8
    try clear c11
    try clear c11b0
    try clear c11b1
    try clear c12
    try clear c12b0
    try clear c12b1
    try clear c13
    try clear c13b0
    try clear c13b1
    obtain ⟨kq, x41_8, rfl, HA, HJ8, HB⟩ := hcut
    cases kq with
    | zero => exact absurd HA.out (by simp [redlinelaw06_MinimalSteps.j0])
    | succ kj8 =>
     have H := HA.out
     clear HA
     simp only [redlinelaw06_MinimalSteps.j0] at H
     by_cases c14 : x41_8 = true
     ·subst c14
      have H1 : (some true) = some r := by rw [if_pos rfl] at H; exact H
      clear H
      have H := H1
      clear H1
      obtain rfl := Option.some.inj H
      go_wp2
      go_ret
      exact ⟨by first | rfl | (simp [errW_none, errW_some] <;> rfl) | (simp [*, errW_none, errW_some] <;> rfl), by repeat (first | (with_reducible first | exact HB.out | apply below_alloc | apply pw_below_drewN | apply below_drew1) | exact HB.out)⟩
     ·replace c14 := Bool.eq_false_iff.mpr c14
      subst c14
      have H1 : ((minimal_Length.f kj8 l0 l1).bind fun bt398 => (if (IntKind.u64.wrap (wrap64 ((l0.length : Int) + 1))) = 0 then (none) else ((some (([] : List Int) : List Int)).bind fun y400 => (if 0 ≤ (wrap64 (Int.tmod (IntKind.u64.wrap (a2)) (IntKind.u64.wrap (wrap64 ((l0.length : Int) + 1))))) then (if (wrap64 (Int.tmod (IntKind.u64.wrap (a2)) (IntKind.u64.wrap (wrap64 ((l0.length : Int) + 1))))) ≤ (l0.length : Int) then (if y400.length + (l0.take ((wrap64 (Int.tmod (IntKind.u64.wrap (a2)) (IntKind.u64.wrap (wrap64 ((l0.length : Int) + 1))))) : Int).toNat).length < 17592186044416 then ((some (y400 ++ (l0.take ((wrap64 (Int.tmod (IntKind.u64.wrap (a2)) (IntKind.u64.wrap (wrap64 ((l0.length : Int) + 1))))) : Int).toNat) : List Int)).bind fun y404 => ((some (([a3] : List Int) : List Int)).bind fun y407 => (if y404.length + y407.length < 17592186044416 then ((some (y404 ++ y407 : List Int)).bind fun y410 => (if y410.length + (l0.drop ((wrap64 (Int.tmod (IntKind.u64.wrap (a2)) (IntKind.u64.wrap (wrap64 ((l0.length : Int) + 1))))) : Int).toNat).length < 17592186044416 then ((minimal_Length.f kj8 (y410 ++ (l0.drop ((wrap64 (Int.tmod (IntKind.u64.wrap (a2)) (IntKind.u64.wrap (wrap64 ((l0.length : Int) + 1))))) : Int).toNat)) l1).bind fun bt417 => ((minimal_Length.f kj8 l4 l5).bind fun bt419 => ((some (([] : List Int) : List Int)).bind fun y421 => (if y421.length + l0.length < 17592186044416 then ((some (y421 ++ l0 : List Int)).bind fun y424 => (if y424.length + l4.length < 17592186044416 then ((some (([] : List Int) : List Int)).bind fun y430 => (if y430.length + l1.length < 17592186044416 then ((some (y430 ++ l1 : List Int)).bind fun y433 => (if y433.length + l5.length < 17592186044416 then ((minimal_Length.f kj8 (y424 ++ l4) (y433 ++ l5)).bind fun bt439 => (if bt398.2 = 0 then (if bt417.2 = 0 then (if bt419.2 = 0 then (if bt439.2 = 0 then (if bt417.1 = bt398.1 then (redlinelaw06_MinimalSteps.j1 kj8 (decide (bt439.1 ≥ (wrap64 (bt398.1 + bt419.1))))) else (if bt417.1 = (wrap64 (bt398.1 + 1)) then (redlinelaw06_MinimalSteps.j1 kj8 (decide (bt439.1 ≥ (wrap64 (bt398.1 + bt419.1))))) else (redlinelaw06_MinimalSteps.j1 kj8 false))) else (redlinelaw06_MinimalSteps.j1 kj8 false)) else (redlinelaw06_MinimalSteps.j1 kj8 false)) else (redlinelaw06_MinimalSteps.j1 kj8 false)) else (redlinelaw06_MinimalSteps.j1 kj8 false))) else (none))) else (none))) else (none))) else (none))))) else (none))) else (none)))) else (none)) else (none)) else (none))))) = some r := by rw [if_neg (show ¬ (false = true) by decide)] at H; exact H
      clear H
      have H := H1
      clear H1
      replace H := Option.bind_eq_some_iff.mp H
      obtain ⟨⟨t398, t399⟩, A150, H⟩ := H
      replace H : (if (IntKind.u64.wrap (wrap64 ((l0.length : Int) + 1))) = 0 then (none) else ((some (([] : List Int) : List Int)).bind fun y400 => (if 0 ≤ (wrap64 (Int.tmod (IntKind.u64.wrap (a2)) (IntKind.u64.wrap (wrap64 ((l0.length : Int) + 1))))) then (if (wrap64 (Int.tmod (IntKind.u64.wrap (a2)) (IntKind.u64.wrap (wrap64 ((l0.length : Int) + 1))))) ≤ (l0.length : Int) then (if y400.length + (l0.take ((wrap64 (Int.tmod (IntKind.u64.wrap (a2)) (IntKind.u64.wrap (wrap64 ((l0.length : Int) + 1))))) : Int).toNat).length < 17592186044416 then ((some (y400 ++ (l0.take ((wrap64 (Int.tmod (IntKind.u64.wrap (a2)) (IntKind.u64.wrap (wrap64 ((l0.length : Int) + 1))))) : Int).toNat) : List Int)).bind fun y404 => ((some (([a3] : List Int) : List Int)).bind fun y407 => (if y404.length + y407.length < 17592186044416 then ((some (y404 ++ y407 : List Int)).bind fun y410 => (if y410.length + (l0.drop ((wrap64 (Int.tmod (IntKind.u64.wrap (a2)) (IntKind.u64.wrap (wrap64 ((l0.length : Int) + 1))))) : Int).toNat).length < 17592186044416 then ((minimal_Length.f kj8 (y410 ++ (l0.drop ((wrap64 (Int.tmod (IntKind.u64.wrap (a2)) (IntKind.u64.wrap (wrap64 ((l0.length : Int) + 1))))) : Int).toNat)) l1).bind fun bt417 => ((minimal_Length.f kj8 l4 l5).bind fun bt419 => ((some (([] : List Int) : List Int)).bind fun y421 => (if y421.length + l0.length < 17592186044416 then ((some (y421 ++ l0 : List Int)).bind fun y424 => (if y424.length + l4.length < 17592186044416 then ((some (([] : List Int) : List Int)).bind fun y430 => (if y430.length + l1.length < 17592186044416 then ((some (y430 ++ l1 : List Int)).bind fun y433 => (if y433.length + l5.length < 17592186044416 then ((minimal_Length.f kj8 (y424 ++ l4) (y433 ++ l5)).bind fun bt439 => (if t399 = 0 then (if bt417.2 = 0 then (if bt419.2 = 0 then (if bt439.2 = 0 then (if bt417.1 = t398 then (redlinelaw06_MinimalSteps.j1 kj8 (decide (bt439.1 ≥ (wrap64 (t398 + bt419.1))))) else (if bt417.1 = (wrap64 (t398 + 1)) then (redlinelaw06_MinimalSteps.j1 kj8 (decide (bt439.1 ≥ (wrap64 (t398 + bt419.1))))) else (redlinelaw06_MinimalSteps.j1 kj8 false))) else (redlinelaw06_MinimalSteps.j1 kj8 false)) else (redlinelaw06_MinimalSteps.j1 kj8 false)) else (redlinelaw06_MinimalSteps.j1 kj8 false)) else (redlinelaw06_MinimalSteps.j1 kj8 false))) else (none))) else (none))) else (none))) else (none))))) else (none))) else (none)))) else (none)) else (none)) else (none)))) = some r := H
      have A15 := Aside0.mk A150
      clear A150
      by_cases c16 : (IntKind.u64.wrap (wrap64 ((l0.length : Int) + 1))) = 0
      ·rw [if_pos c16] at H
       exact absurd H (by simp)
      ·rw [if_neg c16] at H
       have c16b0 : ((IntKind.u64.wrap (wrap64 ((l0.length : Int) + 1))) == 0) = false := beq_eq_false_iff_ne.mpr c16
       have c16b1 : ((IntKind.u64.wrap (wrap64 ((l0.length : Int) + 1))) != 0) = true := bne_iff_ne.mpr c16
       obtain ⟨y400, hy400⟩ : ∃ y_ : List Int, y_ = (([] : List Int)) := ⟨_, rfl⟩
       replace H : (if 0 ≤ (wrap64 (Int.tmod (IntKind.u64.wrap (a2)) (IntKind.u64.wrap (wrap64 ((l0.length : Int) + 1))))) then (if (wrap64 (Int.tmod (IntKind.u64.wrap (a2)) (IntKind.u64.wrap (wrap64 ((l0.length : Int) + 1))))) ≤ (l0.length : Int) then (if y400.length + (l0.take ((wrap64 (Int.tmod (IntKind.u64.wrap (a2)) (IntKind.u64.wrap (wrap64 ((l0.length : Int) + 1))))) : Int).toNat).length < 17592186044416 then ((some (y400 ++ (l0.take ((wrap64 (Int.tmod (IntKind.u64.wrap (a2)) (IntKind.u64.wrap (wrap64 ((l0.length : Int) + 1))))) : Int).toNat) : List Int)).bind fun y404 => ((some (([a3] : List Int) : List Int)).bind fun y407 => (if y404.length + y407.length < 17592186044416 then ((some (y404 ++ y407 : List Int)).bind fun y410 => (if y410.length + (l0.drop ((wrap64 (Int.tmod (IntKind.u64.wrap (a2)) (IntKind.u64.wrap (wrap64 ((l0.length : Int) + 1))))) : Int).toNat).length < 17592186044416 then ((minimal_Length.f kj8 (y410 ++ (l0.drop ((wrap64 (Int.tmod (IntKind.u64.wrap (a2)) (IntKind.u64.wrap (wrap64 ((l0.length : Int) + 1))))) : Int).toNat)) l1).bind fun bt417 => ((minimal_Length.f kj8 l4 l5).bind fun bt419 => ((some (([] : List Int) : List Int)).bind fun y421 => (if y421.length + l0.length < 17592186044416 then ((some (y421 ++ l0 : List Int)).bind fun y424 => (if y424.length + l4.length < 17592186044416 then ((some (([] : List Int) : List Int)).bind fun y430 => (if y430.length + l1.length < 17592186044416 then ((some (y430 ++ l1 : List Int)).bind fun y433 => (if y433.length + l5.length < 17592186044416 then ((minimal_Length.f kj8 (y424 ++ l4) (y433 ++ l5)).bind fun bt439 => (if t399 = 0 then (if bt417.2 = 0 then (if bt419.2 = 0 then (if bt439.2 = 0 then (if bt417.1 = t398 then (redlinelaw06_MinimalSteps.j1 kj8 (decide (bt439.1 ≥ (wrap64 (t398 + bt419.1))))) else (if bt417.1 = (wrap64 (t398 + 1)) then (redlinelaw06_MinimalSteps.j1 kj8 (decide (bt439.1 ≥ (wrap64 (t398 + bt419.1))))) else (redlinelaw06_MinimalSteps.j1 kj8 false))) else (redlinelaw06_MinimalSteps.j1 kj8 false)) else (redlinelaw06_MinimalSteps.j1 kj8 false)) else (redlinelaw06_MinimalSteps.j1 kj8 false)) else (redlinelaw06_MinimalSteps.j1 kj8 false))) else (none))) else (none))) else (none))) else (none))))) else (none))) else (none)))) else (none)) else (none)) else (none)) = some r := by first | (rw [hy400]; with_reducible exact H) | (have H2_ := (Option.bind_some _ _).symm.trans H; rw [hy400]; with_reducible exact H2_) | (have H2_ := (Option.bind_some _ _).symm.trans H; with_reducible exact H2_) | with_reducible exact H | (rw [hy400]; exact H) | exact H
       have Ny400 := Aside0.mk hy400
       clear hy400
       obtain ⟨ji17, hji17⟩ : ∃ j_ : Int, (wrap64 (Int.tmod (IntKind.u64.wrap (a2)) (IntKind.u64.wrap (wrap64 ((l0.length : Int) + 1))))) = j_ := ⟨_, rfl⟩
       replace H : (if 0 ≤ (ji17) then (if (ji17) ≤ (l0.length : Int) then (if y400.length + (l0.take ((ji17) : Int).toNat).length < 17592186044416 then ((some (y400 ++ (l0.take ((ji17) : Int).toNat) : List Int)).bind fun y404 => ((some (([a3] : List Int) : List Int)).bind fun y407 => (if y404.length + y407.length < 17592186044416 then ((some (y404 ++ y407 : List Int)).bind fun y410 => (if y410.length + (l0.drop ((ji17) : Int).toNat).length < 17592186044416 then ((minimal_Length.f kj8 (y410 ++ (l0.drop ((ji17) : Int).toNat)) l1).bind fun bt417 => ((minimal_Length.f kj8 l4 l5).bind fun bt419 => ((some (([] : List Int) : List Int)).bind fun y421 => (if y421.length + l0.length < 17592186044416 then ((some (y421 ++ l0 : List Int)).bind fun y424 => (if y424.length + l4.length < 17592186044416 then ((some (([] : List Int) : List Int)).bind fun y430 => (if y430.length + l1.length < 17592186044416 then ((some (y430 ++ l1 : List Int)).bind fun y433 => (if y433.length + l5.length < 17592186044416 then ((minimal_Length.f kj8 (y424 ++ l4) (y433 ++ l5)).bind fun bt439 => (if t399 = 0 then (if bt417.2 = 0 then (if bt419.2 = 0 then (if bt439.2 = 0 then (if bt417.1 = t398 then (redlinelaw06_MinimalSteps.j1 kj8 (decide (bt439.1 ≥ (wrap64 (t398 + bt419.1))))) else (if bt417.1 = (wrap64 (t398 + 1)) then (redlinelaw06_MinimalSteps.j1 kj8 (decide (bt439.1 ≥ (wrap64 (t398 + bt419.1))))) else (redlinelaw06_MinimalSteps.j1 kj8 false))) else (redlinelaw06_MinimalSteps.j1 kj8 false)) else (redlinelaw06_MinimalSteps.j1 kj8 false)) else (redlinelaw06_MinimalSteps.j1 kj8 false)) else (redlinelaw06_MinimalSteps.j1 kj8 false))) else (none))) else (none))) else (none))) else (none))))) else (none))) else (none)))) else (none)) else (none)) else (none)) = some r := by first | (rw [hji17] at H; exact H) | (simp only [hji17] at H ⊢; exact H)
       (try rw [hji17] at A15)
       have hji17w : (IntKind.i64.wrap (Int.tmod (IntKind.u64.wrap (a2)) (IntKind.u64.wrap (wrap64 ((l0.length : Int) + 1))))) = ji17 := (i64_w _).trans hji17
       by_cases c18 : 0 ≤ (ji17)
       ·rw [if_pos c18] at H
        have c18b0 := eq_true c18
        have c18b1 : decide (0 ≤ (ji17)) = true := decide_eq_true c18
        clear c18
        by_cases c19 : (ji17) ≤ (l0.length : Int)
        ·rw [if_pos c19] at H
         have c19b0 := eq_true c19
         have c19b1 : decide ((ji17) ≤ (l0.length : Int)) = true := decide_eq_true c19
         clear c19
         by_cases c20 : y400.length + (l0.take ((ji17) : Int).toNat).length < 17592186044416
         ·rw [if_pos c20] at H
          have LMc20 := Aside0.mk c20
          clear c20
          obtain ⟨y404, hy404⟩ : ∃ y_ : List Int, y_ = (y400 ++ (l0.take ((ji17) : Int).toNat)) := ⟨_, rfl⟩
          replace H : ((some (([a3] : List Int) : List Int)).bind fun y407 => (if y404.length + y407.length < 17592186044416 then ((some (y404 ++ y407 : List Int)).bind fun y410 => (if y410.length + (l0.drop ((ji17) : Int).toNat).length < 17592186044416 then ((minimal_Length.f kj8 (y410 ++ (l0.drop ((ji17) : Int).toNat)) l1).bind fun bt417 => ((minimal_Length.f kj8 l4 l5).bind fun bt419 => ((some (([] : List Int) : List Int)).bind fun y421 => (if y421.length + l0.length < 17592186044416 then ((some (y421 ++ l0 : List Int)).bind fun y424 => (if y424.length + l4.length < 17592186044416 then ((some (([] : List Int) : List Int)).bind fun y430 => (if y430.length + l1.length < 17592186044416 then ((some (y430 ++ l1 : List Int)).bind fun y433 => (if y433.length + l5.length < 17592186044416 then ((minimal_Length.f kj8 (y424 ++ l4) (y433 ++ l5)).bind fun bt439 => (if t399 = 0 then (if bt417.2 = 0 then (if bt419.2 = 0 then (if bt439.2 = 0 then (if bt417.1 = t398 then (redlinelaw06_MinimalSteps.j1 kj8 (decide (bt439.1 ≥ (wrap64 (t398 + bt419.1))))) else (if bt417.1 = (wrap64 (t398 + 1)) then (redlinelaw06_MinimalSteps.j1 kj8 (decide (bt439.1 ≥ (wrap64 (t398 + bt419.1))))) else (redlinelaw06_MinimalSteps.j1 kj8 false))) else (redlinelaw06_MinimalSteps.j1 kj8 false)) else (redlinelaw06_MinimalSteps.j1 kj8 false)) else (redlinelaw06_MinimalSteps.j1 kj8 false)) else (redlinelaw06_MinimalSteps.j1 kj8 false))) else (none))) else (none))) else (none))) else (none))))) else (none))) else (none))) = some r := by first | (rw [hy404]; with_reducible exact H) | (have H2_ := (Option.bind_some _ _).symm.trans H; rw [hy404]; with_reducible exact H2_) | (have H2_ := (Option.bind_some _ _).symm.trans H; with_reducible exact H2_) | with_reducible exact H | (rw [hy404]; exact H) | exact H
          have Ny404 := Aside0.mk hy404
          clear hy404
          obtain ⟨y407, hy407⟩ : ∃ y_ : List Int, y_ = (([a3] : List Int)) := ⟨_, rfl⟩
          replace H : (if y404.length + y407.length < 17592186044416 then ((some (y404 ++ y407 : List Int)).bind fun y410 => (if y410.length + (l0.drop ((ji17) : Int).toNat).length < 17592186044416 then ((minimal_Length.f kj8 (y410 ++ (l0.drop ((ji17) : Int).toNat)) l1).bind fun bt417 => ((minimal_Length.f kj8 l4 l5).bind fun bt419 => ((some (([] : List Int) : List Int)).bind fun y421 => (if y421.length + l0.length < 17592186044416 then ((some (y421 ++ l0 : List Int)).bind fun y424 => (if y424.length + l4.length < 17592186044416 then ((some (([] : List Int) : List Int)).bind fun y430 => (if y430.length + l1.length < 17592186044416 then ((some (y430 ++ l1 : List Int)).bind fun y433 => (if y433.length + l5.length < 17592186044416 then ((minimal_Length.f kj8 (y424 ++ l4) (y433 ++ l5)).bind fun bt439 => (if t399 = 0 then (if bt417.2 = 0 then (if bt419.2 = 0 then (if bt439.2 = 0 then (if bt417.1 = t398 then (redlinelaw06_MinimalSteps.j1 kj8 (decide (bt439.1 ≥ (wrap64 (t398 + bt419.1))))) else (if bt417.1 = (wrap64 (t398 + 1)) then (redlinelaw06_MinimalSteps.j1 kj8 (decide (bt439.1 ≥ (wrap64 (t398 + bt419.1))))) else (redlinelaw06_MinimalSteps.j1 kj8 false))) else (redlinelaw06_MinimalSteps.j1 kj8 false)) else (redlinelaw06_MinimalSteps.j1 kj8 false)) else (redlinelaw06_MinimalSteps.j1 kj8 false)) else (redlinelaw06_MinimalSteps.j1 kj8 false))) else (none))) else (none))) else (none))) else (none))))) else (none))) else (none)) = some r := by first | (rw [hy407]; with_reducible exact H) | (have H2_ := (Option.bind_some _ _).symm.trans H; rw [hy407]; with_reducible exact H2_) | (have H2_ := (Option.bind_some _ _).symm.trans H; with_reducible exact H2_) | with_reducible exact H | (rw [hy407]; exact H) | exact H
          have Ny407 := Aside0.mk hy407
          clear hy407
          by_cases c21 : y404.length + y407.length < 17592186044416
          ·rw [if_pos c21] at H
           have LMc21 := Aside0.mk c21
           clear c21
           obtain ⟨y410, hy410⟩ : ∃ y_ : List Int, y_ = (y404 ++ y407) := ⟨_, rfl⟩
           replace H : (if y410.length + (l0.drop ((ji17) : Int).toNat).length < 17592186044416 then ((minimal_Length.f kj8 (y410 ++ (l0.drop ((ji17) : Int).toNat)) l1).bind fun bt417 => ((minimal_Length.f kj8 l4 l5).bind fun bt419 => ((some (([] : List Int) : List Int)).bind fun y421 => (if y421.length + l0.length < 17592186044416 then ((some (y421 ++ l0 : List Int)).bind fun y424 => (if y424.length + l4.length < 17592186044416 then ((some (([] : List Int) : List Int)).bind fun y430 => (if y430.length + l1.length < 17592186044416 then ((some (y430 ++ l1 : List Int)).bind fun y433 => (if y433.length + l5.length < 17592186044416 then ((minimal_Length.f kj8 (y424 ++ l4) (y433 ++ l5)).bind fun bt439 => (if t399 = 0 then (if bt417.2 = 0 then (if bt419.2 = 0 then (if bt439.2 = 0 then (if bt417.1 = t398 then (redlinelaw06_MinimalSteps.j1 kj8 (decide (bt439.1 ≥ (wrap64 (t398 + bt419.1))))) else (if bt417.1 = (wrap64 (t398 + 1)) then (redlinelaw06_MinimalSteps.j1 kj8 (decide (bt439.1 ≥ (wrap64 (t398 + bt419.1))))) else (redlinelaw06_MinimalSteps.j1 kj8 false))) else (redlinelaw06_MinimalSteps.j1 kj8 false)) else (redlinelaw06_MinimalSteps.j1 kj8 false)) else (redlinelaw06_MinimalSteps.j1 kj8 false)) else (redlinelaw06_MinimalSteps.j1 kj8 false))) else (none))) else (none))) else (none))) else (none))))) else (none)) = some r := by first | (rw [hy410]; with_reducible exact H) | (have H2_ := (Option.bind_some _ _).symm.trans H; rw [hy410]; with_reducible exact H2_) | (have H2_ := (Option.bind_some _ _).symm.trans H; with_reducible exact H2_) | with_reducible exact H | (rw [hy410]; exact H) | exact H
           have Ny410 := Aside0.mk hy410
           clear hy410
           have c22b0 := eq_true (of_decide_eq_true (by first | (with_reducible assumption) | assumption) : 0 ≤ (ji17))
           have c23b0 := eq_true (of_decide_eq_true (by first | (with_reducible assumption) | assumption) : (ji17) ≤ (l0.length : Int))
           by_cases c24 : y410.length + (l0.drop ((ji17) : Int).toNat).length < 17592186044416
           ·rw [if_pos c24] at H
            have LMc24 := Aside0.mk c24
            clear c24
            obtain ⟨y414, hy414⟩ : ∃ y_ : List Int, y_ = (y410 ++ (l0.drop ((ji17) : Int).toNat)) := ⟨_, rfl⟩
            replace H : ((minimal_Length.f kj8 y414 l1).bind fun bt417 => ((minimal_Length.f kj8 l4 l5).bind fun bt419 => ((some (([] : List Int) : List Int)).bind fun y421 => (if y421.length + l0.length < 17592186044416 then ((some (y421 ++ l0 : List Int)).bind fun y424 => (if y424.length + l4.length < 17592186044416 then ((some (([] : List Int) : List Int)).bind fun y430 => (if y430.length + l1.length < 17592186044416 then ((some (y430 ++ l1 : List Int)).bind fun y433 => (if y433.length + l5.length < 17592186044416 then ((minimal_Length.f kj8 (y424 ++ l4) (y433 ++ l5)).bind fun bt439 => (if t399 = 0 then (if bt417.2 = 0 then (if bt419.2 = 0 then (if bt439.2 = 0 then (if bt417.1 = t398 then (redlinelaw06_MinimalSteps.j1 kj8 (decide (bt439.1 ≥ (wrap64 (t398 + bt419.1))))) else (if bt417.1 = (wrap64 (t398 + 1)) then (redlinelaw06_MinimalSteps.j1 kj8 (decide (bt439.1 ≥ (wrap64 (t398 + bt419.1))))) else (redlinelaw06_MinimalSteps.j1 kj8 false))) else (redlinelaw06_MinimalSteps.j1 kj8 false)) else (redlinelaw06_MinimalSteps.j1 kj8 false)) else (redlinelaw06_MinimalSteps.j1 kj8 false)) else (redlinelaw06_MinimalSteps.j1 kj8 false))) else (none))) else (none))) else (none))) else (none))))) = some r := by first | (rw [hy414]; with_reducible exact H) | (have H2_ := (Option.bind_some _ _).symm.trans H; rw [hy414]; with_reducible exact H2_) | (have H2_ := (Option.bind_some _ _).symm.trans H; with_reducible exact H2_) | with_reducible exact H | (rw [hy414]; exact H) | exact H
            have Ny414 := Aside0.mk hy414
            clear hy414
            replace H := Option.bind_eq_some_iff.mp H
            obtain ⟨⟨t417, t418⟩, A250, H⟩ := H
            replace H : ((minimal_Length.f kj8 l4 l5).bind fun bt419 => ((some (([] : List Int) : List Int)).bind fun y421 => (if y421.length + l0.length < 17592186044416 then ((some (y421 ++ l0 : List Int)).bind fun y424 => (if y424.length + l4.length < 17592186044416 then ((some (([] : List Int) : List Int)).bind fun y430 => (if y430.length + l1.length < 17592186044416 then ((some (y430 ++ l1 : List Int)).bind fun y433 => (if y433.length + l5.length < 17592186044416 then ((minimal_Length.f kj8 (y424 ++ l4) (y433 ++ l5)).bind fun bt439 => (if t399 = 0 then (if t418 = 0 then (if bt419.2 = 0 then (if bt439.2 = 0 then (if t417 = t398 then (redlinelaw06_MinimalSteps.j1 kj8 (decide (bt439.1 ≥ (wrap64 (t398 + bt419.1))))) else (if t417 = (wrap64 (t398 + 1)) then (redlinelaw06_MinimalSteps.j1 kj8 (decide (bt439.1 ≥ (wrap64 (t398 + bt419.1))))) else (redlinelaw06_MinimalSteps.j1 kj8 false))) else (redlinelaw06_MinimalSteps.j1 kj8 false)) else (redlinelaw06_MinimalSteps.j1 kj8 false)) else (redlinelaw06_MinimalSteps.j1 kj8 false)) else (redlinelaw06_MinimalSteps.j1 kj8 false))) else (none))) else (none))) else (none))) else (none)))) = some r := H
            have A25 := Aside0.mk A250
            clear A250
            replace H := Option.bind_eq_some_iff.mp H
            obtain ⟨⟨t419, t420⟩, A260, H⟩ := H
            replace H : ((some (([] : List Int) : List Int)).bind fun y421 => (if y421.length + l0.length < 17592186044416 then ((some (y421 ++ l0 : List Int)).bind fun y424 => (if y424.length + l4.length < 17592186044416 then ((some (([] : List Int) : List Int)).bind fun y430 => (if y430.length + l1.length < 17592186044416 then ((some (y430 ++ l1 : List Int)).bind fun y433 => (if y433.length + l5.length < 17592186044416 then ((minimal_Length.f kj8 (y424 ++ l4) (y433 ++ l5)).bind fun bt439 => (if t399 = 0 then (if t418 = 0 then (if t420 = 0 then (if bt439.2 = 0 then (if t417 = t398 then (redlinelaw06_MinimalSteps.j1 kj8 (decide (bt439.1 ≥ (wrap64 (t398 + t419))))) else (if t417 = (wrap64 (t398 + 1)) then (redlinelaw06_MinimalSteps.j1 kj8 (decide (bt439.1 ≥ (wrap64 (t398 + t419))))) else (redlinelaw06_MinimalSteps.j1 kj8 false))) else (redlinelaw06_MinimalSteps.j1 kj8 false)) else (redlinelaw06_MinimalSteps.j1 kj8 false)) else (redlinelaw06_MinimalSteps.j1 kj8 false)) else (redlinelaw06_MinimalSteps.j1 kj8 false))) else (none))) else (none))) else (none))) else (none))) = some r := H
            have A26 := Aside0.mk A260
            clear A260
            obtain ⟨y421, hy421⟩ : ∃ y_ : List Int, y_ = (([] : List Int)) := ⟨_, rfl⟩
            replace H : (if y421.length + l0.length < 17592186044416 then ((some (y421 ++ l0 : List Int)).bind fun y424 => (if y424.length + l4.length < 17592186044416 then ((some (([] : List Int) : List Int)).bind fun y430 => (if y430.length + l1.length < 17592186044416 then ((some (y430 ++ l1 : List Int)).bind fun y433 => (if y433.length + l5.length < 17592186044416 then ((minimal_Length.f kj8 (y424 ++ l4) (y433 ++ l5)).bind fun bt439 => (if t399 = 0 then (if t418 = 0 then (if t420 = 0 then (if bt439.2 = 0 then (if t417 = t398 then (redlinelaw06_MinimalSteps.j1 kj8 (decide (bt439.1 ≥ (wrap64 (t398 + t419))))) else (if t417 = (wrap64 (t398 + 1)) then (redlinelaw06_MinimalSteps.j1 kj8 (decide (bt439.1 ≥ (wrap64 (t398 + t419))))) else (redlinelaw06_MinimalSteps.j1 kj8 false))) else (redlinelaw06_MinimalSteps.j1 kj8 false)) else (redlinelaw06_MinimalSteps.j1 kj8 false)) else (redlinelaw06_MinimalSteps.j1 kj8 false)) else (redlinelaw06_MinimalSteps.j1 kj8 false))) else (none))) else (none))) else (none))) else (none)) = some r := by first | (rw [hy421]; with_reducible exact H) | (have H2_ := (Option.bind_some _ _).symm.trans H; rw [hy421]; with_reducible exact H2_) | (have H2_ := (Option.bind_some _ _).symm.trans H; with_reducible exact H2_) | with_reducible exact H | (rw [hy421]; exact H) | exact H
            have Ny421 := Aside0.mk hy421
            clear hy421
            by_cases c27 : y421.length + l0.length < 17592186044416
            ·rw [if_pos c27] at H
             have LMc27 := Aside0.mk c27
             clear c27
             obtain ⟨y424, hy424⟩ : ∃ y_ : List Int, y_ = (y421 ++ l0) := ⟨_, rfl⟩
             replace H : (if y424.length + l4.length < 17592186044416 then ((some (([] : List Int) : List Int)).bind fun y430 => (if y430.length + l1.length < 17592186044416 then ((some (y430 ++ l1 : List Int)).bind fun y433 => (if y433.length + l5.length < 17592186044416 then ((minimal_Length.f kj8 (y424 ++ l4) (y433 ++ l5)).bind fun bt439 => (if t399 = 0 then (if t418 = 0 then (if t420 = 0 then (if bt439.2 = 0 then (if t417 = t398 then (redlinelaw06_MinimalSteps.j1 kj8 (decide (bt439.1 ≥ (wrap64 (t398 + t419))))) else (if t417 = (wrap64 (t398 + 1)) then (redlinelaw06_MinimalSteps.j1 kj8 (decide (bt439.1 ≥ (wrap64 (t398 + t419))))) else (redlinelaw06_MinimalSteps.j1 kj8 false))) else (redlinelaw06_MinimalSteps.j1 kj8 false)) else (redlinelaw06_MinimalSteps.j1 kj8 false)) else (redlinelaw06_MinimalSteps.j1 kj8 false)) else (redlinelaw06_MinimalSteps.j1 kj8 false))) else (none))) else (none))) else (none)) = some r := by first | (rw [hy424]; with_reducible exact H) | (have H2_ := (Option.bind_some _ _).symm.trans H; rw [hy424]; with_reducible exact H2_) | (have H2_ := (Option.bind_some _ _).symm.trans H; with_reducible exact H2_) | with_reducible exact H | (rw [hy424]; exact H) | exact H
             have Ny424 := Aside0.mk hy424
             clear hy424
             by_cases c28 : y424.length + l4.length < 17592186044416
             ·rw [if_pos c28] at H
              have LMc28 := Aside0.mk c28
              clear c28
              obtain ⟨y427, hy427⟩ : ∃ y_ : List Int, y_ = (y424 ++ l4) := ⟨_, rfl⟩
              replace H : ((some (([] : List Int) : List Int)).bind fun y430 => (if y430.length + l1.length < 17592186044416 then ((some (y430 ++ l1 : List Int)).bind fun y433 => (if y433.length + l5.length < 17592186044416 then ((minimal_Length.f kj8 y427 (y433 ++ l5)).bind fun bt439 => (if t399 = 0 then (if t418 = 0 then (if t420 = 0 then (if bt439.2 = 0 then (if t417 = t398 then (redlinelaw06_MinimalSteps.j1 kj8 (decide (bt439.1 ≥ (wrap64 (t398 + t419))))) else (if t417 = (wrap64 (t398 + 1)) then (redlinelaw06_MinimalSteps.j1 kj8 (decide (bt439.1 ≥ (wrap64 (t398 + t419))))) else (redlinelaw06_MinimalSteps.j1 kj8 false))) else (redlinelaw06_MinimalSteps.j1 kj8 false)) else (redlinelaw06_MinimalSteps.j1 kj8 false)) else (redlinelaw06_MinimalSteps.j1 kj8 false)) else (redlinelaw06_MinimalSteps.j1 kj8 false))) else (none))) else (none))) = some r := by first | (rw [hy427]; with_reducible exact H) | (have H2_ := (Option.bind_some _ _).symm.trans H; rw [hy427]; with_reducible exact H2_) | (have H2_ := (Option.bind_some _ _).symm.trans H; with_reducible exact H2_) | with_reducible exact H | (rw [hy427]; exact H) | exact H
              have Ny427 := Aside0.mk hy427
              clear hy427
              obtain ⟨y430, hy430⟩ : ∃ y_ : List Int, y_ = (([] : List Int)) := ⟨_, rfl⟩
              replace H : (if y430.length + l1.length < 17592186044416 then ((some (y430 ++ l1 : List Int)).bind fun y433 => (if y433.length + l5.length < 17592186044416 then ((minimal_Length.f kj8 y427 (y433 ++ l5)).bind fun bt439 => (if t399 = 0 then (if t418 = 0 then (if t420 = 0 then (if bt439.2 = 0 then (if t417 = t398 then (redlinelaw06_MinimalSteps.j1 kj8 (decide (bt439.1 ≥ (wrap64 (t398 + t419))))) else (if t417 = (wrap64 (t398 + 1)) then (redlinelaw06_MinimalSteps.j1 kj8 (decide (bt439.1 ≥ (wrap64 (t398 + t419))))) else (redlinelaw06_MinimalSteps.j1 kj8 false))) else (redlinelaw06_MinimalSteps.j1 kj8 false)) else (redlinelaw06_MinimalSteps.j1 kj8 false)) else (redlinelaw06_MinimalSteps.j1 kj8 false)) else (redlinelaw06_MinimalSteps.j1 kj8 false))) else (none))) else (none)) = some r := by first | (rw [hy430]; with_reducible exact H) | (have H2_ := (Option.bind_some _ _).symm.trans H; rw [hy430]; with_reducible exact H2_) | (have H2_ := (Option.bind_some _ _).symm.trans H; with_reducible exact H2_) | with_reducible exact H | (rw [hy430]; exact H) | exact H
              have Ny430 := Aside0.mk hy430
              clear hy430
              by_cases c29 : y430.length + l1.length < 17592186044416
              ·rw [if_pos c29] at H
               have LMc29 := Aside0.mk c29
               clear c29
               obtain ⟨y433, hy433⟩ : ∃ y_ : List Int, y_ = (y430 ++ l1) := ⟨_, rfl⟩
               replace H : (if y433.length + l5.length < 17592186044416 then ((minimal_Length.f kj8 y427 (y433 ++ l5)).bind fun bt439 => (if t399 = 0 then (if t418 = 0 then (if t420 = 0 then (if bt439.2 = 0 then (if t417 = t398 then (redlinelaw06_MinimalSteps.j1 kj8 (decide (bt439.1 ≥ (wrap64 (t398 + t419))))) else (if t417 = (wrap64 (t398 + 1)) then (redlinelaw06_MinimalSteps.j1 kj8 (decide (bt439.1 ≥ (wrap64 (t398 + t419))))) else (redlinelaw06_MinimalSteps.j1 kj8 false))) else (redlinelaw06_MinimalSteps.j1 kj8 false)) else (redlinelaw06_MinimalSteps.j1 kj8 false)) else (redlinelaw06_MinimalSteps.j1 kj8 false)) else (redlinelaw06_MinimalSteps.j1 kj8 false))) else (none)) = some r := by first | (rw [hy433]; with_reducible exact H) | (have H2_ := (Option.bind_some _ _).symm.trans H; rw [hy433]; with_reducible exact H2_) | (have H2_ := (Option.bind_some _ _).symm.trans H; with_reducible exact H2_) | with_reducible exact H | (rw [hy433]; exact H) | exact H
               have Ny433 := Aside0.mk hy433
               clear hy433
               by_cases c30 : y433.length + l5.length < 17592186044416
               ·rw [if_pos c30] at H
                have LMc30 := Aside0.mk c30
                clear c30
                obtain ⟨y436, hy436⟩ : ∃ y_ : List Int, y_ = (y433 ++ l5) := ⟨_, rfl⟩
                replace H : ((minimal_Length.f kj8 y427 y436).bind fun bt439 => (if t399 = 0 then (if t418 = 0 then (if t420 = 0 then (if bt439.2 = 0 then (if t417 = t398 then (redlinelaw06_MinimalSteps.j1 kj8 (decide (bt439.1 ≥ (wrap64 (t398 + t419))))) else (if t417 = (wrap64 (t398 + 1)) then (redlinelaw06_MinimalSteps.j1 kj8 (decide (bt439.1 ≥ (wrap64 (t398 + t419))))) else (redlinelaw06_MinimalSteps.j1 kj8 false))) else (redlinelaw06_MinimalSteps.j1 kj8 false)) else (redlinelaw06_MinimalSteps.j1 kj8 false)) else (redlinelaw06_MinimalSteps.j1 kj8 false)) else (redlinelaw06_MinimalSteps.j1 kj8 false))) = some r := by first | (rw [hy436]; with_reducible exact H) | (have H2_ := (Option.bind_some _ _).symm.trans H; rw [hy436]; with_reducible exact H2_) | (have H2_ := (Option.bind_some _ _).symm.trans H; with_reducible exact H2_) | with_reducible exact H | (rw [hy436]; exact H) | exact H
                have Ny436 := Aside0.mk hy436
                clear hy436
                replace H := Option.bind_eq_some_iff.mp H
                obtain ⟨⟨t439, t440⟩, A310, H⟩ := H
                replace H : (if t399 = 0 then (if t418 = 0 then (if t420 = 0 then (if t440 = 0 then (if t417 = t398 then (redlinelaw06_MinimalSteps.j1 kj8 (decide (t439 ≥ (wrap64 (t398 + t419))))) else (if t417 = (wrap64 (t398 + 1)) then (redlinelaw06_MinimalSteps.j1 kj8 (decide (t439 ≥ (wrap64 (t398 + t419))))) else (redlinelaw06_MinimalSteps.j1 kj8 false))) else (redlinelaw06_MinimalSteps.j1 kj8 false)) else (redlinelaw06_MinimalSteps.j1 kj8 false)) else (redlinelaw06_MinimalSteps.j1 kj8 false)) else (redlinelaw06_MinimalSteps.j1 kj8 false)) = some r := H
                have A31 := Aside0.mk A310
                clear A310
                have HC32 := Aside0.mk H
                clear H
                try go_wp2_with (first | ((with_reducible refine gate_callee (f := 21) rfl ?_); refine goesL_ (some 45) rfl rfl Try.func21 (by kernel_rfl) rfl #[.slice A0 l0.length c0, .slice A1 l1.length c1] rfl (by (try simp only [List.map_toArray, List.map_cons, List.map_nil]); first | done | rfl | (simp only [List.length_drop, List.length_take]; rfl)) ?_; (with_reducible refine (minimal_Length.calls kj8 _ _ l0 _ _ l1 t398 t399 _ ?side1 ?side2 ?side3 ?side4 A15.out).mono ?_); (case side1 => repeat (first | exact (Kd.C_below HR0.out HB.out) | (with_reducible refine Kd.C_alloc ?_ _) | (with_reducible refine Kd.C_drewN ?_ _) | (with_reducible refine Kd.C_drew ?_))); (case side2 => exact HC0.out); (case side3 => repeat (first | exact (Kd.C_below HR1.out HB.out) | (with_reducible refine Kd.C_alloc ?_ _) | (with_reducible refine Kd.C_drewN ?_ _) | (with_reducible refine Kd.C_drew ?_))); (case side4 => exact HC1.out); rintro e w33 ⟨rfl, hb⟩; refine ⟨_, rfl, ?_⟩; have n0_ := Aside0.mk (below_step (by repeat (first | (with_reducible first | exact HB.out | apply below_alloc | apply pw_below_drewN | apply below_drew1) | exact HB.out)) hb); clear HB; have HB := n0_; clear n0_; (try clear hb); (try clear hb2); (try clear hk); (try clear hi)))
                have n0_ := Aside0.mk (below_drew1 HB.out)
                clear HB
                have HB := n0_
                clear n0_
                obtain ⟨i035, hi035, _, hsz35, _⟩ := info_parts info3
                obtain ⟨hcut35, hA35, hC35⟩ := print_take_of (P := Try.prog) (Value.int .i64) 0 22 3 .i64 Try.underlying22 hi035 hsz35 A0 c0 l0 (ji17) (of_decide_eq_true (by first | (with_reducible assumption) | assumption)) (of_decide_eq_true (by first | (with_reducible assumption) | assumption)) HC0.out
                have HR403 := Aside0.mk (Kd.C_of_reads (h1 := fun _ => rfl) (hA35 _ (Kd.reads_of_C HR0.out)))
                have HC403 := Aside0.mk hC35
                clear hA35 hC35 hi035 hsz35
                obtain ⟨i036, hi036, _, hsz36, _⟩ := info_parts info3
                obtain ⟨A36, hcut36, hA36, hC36⟩ := print_drop_of (P := Try.prog) (Value.int .i64) 0 22 3 .i64 Try.underlying22 hi036 hsz36 A0 c0 l0 (ji17) (of_decide_eq_true (by first | (with_reducible assumption) | assumption)) (of_decide_eq_true (by first | (with_reducible assumption) | assumption)) HC0.out
                have HR413 := Aside0.mk (Kd.C_of_reads (h1 := fun _ => rfl) (hA36 _ (Kd.reads_of_C HR0.out)))
                have HC413 := Aside0.mk hC36
                clear hA36 hC36 hi036 hsz36
                refine start_ (n := 19) (S := fun w' => True) (ds := []) #[false, false, false, false, false, false, false, false, false, false, false, false, false, false, false, false, false, false, false] (by kernel_rfl) rfl rfl trivial (fun hHeld => ?_); refine with_tabW redlinelaw06_MinimalSteps.tab7 redlinelaw06_MinimalSteps.bits7 (fun HT_ HW_ => ?_)
                generalize w33.drew = w34 at HB HR403 HR413 hHeld ⊢
                refine pure_ (i := 1) (N := some 58) (v := ?_) (a' := ?_) #[false, true, false, false, false, false, false, false, false, false, false, false, false, false, false, false, false, false, false] rfl rfl (any_of HT_.out (by kernel_rfl)) (fun _ _ _ h => h) (Or.inl ⟨by rfl, ?_⟩) ?_ ?_
                rotate_left
                ·intro w'
                 go_simp
                 with_reducible rfl
                rotate_left
                ·simp only [Act.put, List.setIfInBounds_toArray, List.set_cons_zero, List.set_cons_succ, i64_w, i32_w]
                 rfl
                refine pure_ (i := 2) (N := some 59) (v := ?_) (a' := ?_) #[false, true, true, false, false, false, false, false, false, false, false, false, false, false, false, false, false, false, false] rfl rfl (any_of HT_.out (by kernel_rfl)) (fun _ _ _ h => h) (Or.inl ⟨by rfl, ?_⟩) ?_ ?_
                rotate_left
                ·intro w'
                 go_simp
                 with_reducible rfl
                rotate_left
                ·simp only [Act.put, List.setIfInBounds_toArray, List.set_cons_zero, List.set_cons_succ, i64_w, i32_w]
                 rfl
                refine pure_ (i := 3) (N := some 60) (v := ?_) (a' := ?_) #[false, true, true, true, false, false, false, false, false, false, false, false, false, false, false, false, false, false, false] rfl rfl (any_of HT_.out (by kernel_rfl)) (fun _ _ _ h => h) (Or.inl ⟨by rfl, ?_⟩) ?_ ?_
                rotate_left
                ·intro w'
                 go_simp
                 with_reducible rfl
                rotate_left
                ·simp only [Act.put, List.setIfInBounds_toArray, List.set_cons_zero, List.set_cons_succ, i64_w, i32_w]
                 rfl
                refine pure_ (i := 5) (N := some 62) (v := ?_) (a' := ?_) #[false, true, true, true, false, true, false, false, false, false, false, false, false, false, false, false, false, false, false] rfl rfl (any_of HT_.out (by kernel_rfl)) (fun _ _ _ h => h) (Or.inl ⟨by rfl, ?_⟩) ?_ ?_
                rotate_left
                ·intro w'
                 go_simp
                 with_reducible rfl
                rotate_left
                ·simp only [Act.put, List.setIfInBounds_toArray, List.set_cons_zero, List.set_cons_succ, i64_w, i32_w]
                 rfl
                refine pure_ (i := 8) (N := some 65) (v := ?_) (a' := ?_) #[false, true, true, true, false, true, false, false, true, false, false, false, false, false, false, false, false, false, false] rfl rfl (any_of HT_.out (by kernel_rfl)) (fun _ _ _ h => h) (Or.inl ⟨by rfl, ?_⟩) ?_ ?_
                rotate_left
                ·intro w'
                 go_simp
                 with_reducible rfl
                rotate_left
                ·simp only [Act.put, List.setIfInBounds_toArray, List.set_cons_zero, List.set_cons_succ, i64_w, i32_w]
                 rfl
                refine pure_ (i := 9) (N := some 66) (v := ?_) (a' := ?_) #[false, true, true, true, false, true, false, false, true, true, false, false, false, false, false, false, false, false, false] rfl rfl (any_of HT_.out (by kernel_rfl)) (fun _ _ _ h => h) (Or.inl ⟨by rfl, ?_⟩) ?_ ?_
                rotate_left
                ·intro w'
                 go_simp
                 with_reducible rfl
                rotate_left
                ·simp only [Act.put, List.setIfInBounds_toArray, List.set_cons_zero, List.set_cons_succ, i64_w, i32_w]
                 rfl
                refine pure_ (i := 10) (N := some 67) (v := ?_) (a' := ?_) #[false, true, true, true, false, true, false, false, true, true, true, false, false, false, false, false, false, false, false] rfl rfl (any_of HT_.out (by kernel_rfl)) (fun _ _ _ h => h) (Or.inl ⟨by rfl, ?_⟩) ?_ ?_
                rotate_left
                ·intro w'
                 go_simp
                 with_reducible rfl
                rotate_left
                ·simp only [Act.put, List.setIfInBounds_toArray, List.set_cons_zero, List.set_cons_succ, i64_w, i32_w]
                 rfl
                refine pure_ (i := 12) (N := some 69) (v := ?_) (a' := ?_) #[false, true, true, true, false, true, false, false, true, true, true, false, true, false, false, false, false, false, false] rfl rfl (any_of HT_.out (by kernel_rfl)) (fun _ _ _ h => h) (Or.inl ⟨by rfl, ?_⟩) ?_ ?_
                rotate_left
                ·intro w'
                 go_simp
                 with_reducible rfl
                rotate_left
                ·simp only [Act.put, List.setIfInBounds_toArray, List.set_cons_zero, List.set_cons_succ, i64_w, i32_w]
                 rfl
                refine join_ (σ := Value × Value × Value) 8 #[true, true, true, true, true, true, true, false, true, true, true, false, true, false, false, false, false, false, false] (fun s_ => [(57, s_.1), (61, s_.2.1), (63, s_.2.2)]) (fun s_ w' => (Kd.R (Kd.int .i64) 3 w' w.heap.size (fun k_ => some k_ ≠ (s_.2.2 : Value).ownBlock) s_.2.1 y404) ∧ (Kd.R (Kd.int .i64) 3 w' w.heap.size (fun k_ => some k_ ≠ (s_.2.1 : Value).ownBlock) s_.2.2 y407) ∧ (Below w.heap.size w w')) ?_ ?_
                rotate_left
                ·intro hCont
                 refine two_ (i := 0) (j := 6) (Ni := some 57) (Nj := some 63) #[true, true, true, true, false, true, false, false, true, true, true, false, true, false, false, false, false, false, false] #[false, true, true, true, false, true, true, false, true, true, true, false, true, false, false, false, false, false, false] rfl rfl rfl rfl (two_of HT_.out (by kernel_rfl)) (by decide) (by decide) (fun K hK => ?_) (fun K hK => ?_)
                 ·skip
                  refine Kd.R_lit_step (Kd.int .i64) _ 3 ?hg (N := 57) ?hd (xs := ([] : List Int)) (inner := []) (ok := fun _ => True) (okp := fun _ => True) ?hr ?hp (fun _ hk => hk) trivial (Below.refl _ _) (Nat.le_refl _) (by simp) ?_; (case hd => rfl); (case hg => rfl); (case hr => first | (go_simp; done) | (go_simp; rfl)); (case hp => exact (Reps.none _ _))
                  intro v401 w37 ho38 hb hg_ hnew_
                  clear hg_ hnew_
                  (first | rw [← Ny400.out] at ho38 | (simp only [Int.reduceToNat] at ho38; rw [← Ny400.out] at ho38))
                  have n0_ := Aside0.mk (Kd.R_lower ho38 (below_size (by repeat (first | (with_reducible first | exact HB.out | apply below_alloc | apply pw_below_drewN | apply below_drew1) | exact HB.out))))
                  have n1_ := Aside0.mk (below_step (by repeat (first | (with_reducible first | exact HB.out | apply below_alloc | apply pw_below_drewN | apply below_drew1) | exact HB.out)) hb)
                  clear HB
                  have HO402 := n0_
                  have HB := n1_
                  clear n0_ n1_
                  clear hb ho38
                  refine hK.out _ _ trivial (fun hHeld => ?_)
                  clear hK K
                  refine norm_ (a' := ?_) ?_ ?_
                  rotate_left
                  ·show Act.put _ (some 57) _ = _
                   simp only [Act.put, List.setIfInBounds_toArray, List.set_cons_zero, List.set_cons_succ, i64_w, i32_w]
                   rfl
                  refine two_ (i := 4) (j := 6) (Ni := some 61) (Nj := some 63) #[true, true, true, true, true, true, false, false, true, true, true, false, true, false, false, false, false, false, false] #[true, true, true, true, false, true, true, false, true, true, true, false, true, false, false, false, false, false, false] rfl rfl rfl rfl (two_of HT_.out (by kernel_rfl)) (by decide) (by decide) (fun K hK => ?_) (fun K hK => ?_)
                  ·skip
                   refine Kd.R_append_rows_step (Kd.int .i64) (w0 := w) w.heap.size (by rfl) (.tmp 57) (.tmp 60) 22 3 (.int .i64 0) 8 rfl Try.underlying22 info3 rfl (by decide) (by omega) v401 y400 (l0.take ((ji17) : Int).toNat) _ _ _ (fun _ => True) (fun _ => False) rfl rfl ?aO ?aR (fun _ _ h => h) (fun _ h => h.elim) ?aF ?aB ?aS ?aL ?_
                   (case aR => first | (have h_ := (Kd.C_below HR403.out HB.out); rw [show (l0.take ((ji17) : Int).toNat).length = (ji17).toNat from (by rw [List.length_take]; have h_ : ((ji17) : Int) ≤ (l0.length : Int) := of_decide_eq_true (by first | (with_reducible assumption) | assumption); omega)] at h_; exact h_) | (rw [← show (l0.take ((ji17) : Int).toNat).length = (ji17).toNat from (by rw [List.length_take]; have h_ : ((ji17) : Int) ≤ (l0.length : Int) := of_decide_eq_true (by first | (with_reducible assumption) | assumption); omega)]; repeat (first | exact (Kd.C_below HR403.out HB.out) | (with_reducible refine Kd.C_alloc ?_ _) | (with_reducible refine Kd.C_drewN ?_ _) | (with_reducible refine Kd.C_drew ?_))) | (repeat (first | exact (Kd.C_below HR403.out HB.out) | (with_reducible refine Kd.C_alloc ?_ _) | (with_reducible refine Kd.C_drewN ?_ _) | (with_reducible refine Kd.C_drew ?_))))
                   (case aB => exact (by repeat (first | (with_reducible first | exact HB.out | apply below_alloc | apply pw_below_drewN | apply below_drew1) | exact HB.out)))
                   (case aF => exact (fun _ _ => trivial))
                   (case aO => exact (by (with_reducible repeat (first | apply Kd.R_alloc | apply Kd.R_drewN | apply Kd.R_drew)); exact HO402.out))
                   (case aS => exact (below_size (by repeat (first | (with_reducible first | exact HB.out | apply below_alloc | apply pw_below_drewN | apply below_drew1) | exact HB.out))))
                   (case aL => have := LMc20.out; have hlx_ := (show (l0.take ((ji17) : Int).toNat).length = (ji17).toNat from (by rw [List.length_take]; have h_ : ((ji17) : Int) ≤ (l0.length : Int) := of_decide_eq_true (by first | (with_reducible assumption) | assumption); omega)); omega)
                   intro v405 w39 ho hb hg hat
                   rw [← Ny404.out] at ho
                   have n0_ := Aside0.mk (hb)
                   have n1_ := Aside0.mk (ho)
                   clear HB
                   clear HO402
                   have HB := n0_
                   have HO406 := n1_
                   clear n0_ n1_
                   clear ho hb hg hat
                   refine hK.out _ _ trivial (fun hHeld => ?_)
                   clear hK K
                   refine norm_ (a' := ?_) ?_ ?_
                   rotate_left
                   ·show Act.put _ (some 61) _ = _
                    simp only [Act.put, List.setIfInBounds_toArray, List.set_cons_zero, List.set_cons_succ, i64_w, i32_w]
                    rfl
                   refine one_ (i := 6) (N := some 63) #[true, true, true, true, true, true, true, false, true, true, true, false, true, false, false, false, false, false, false] rfl rfl (one_of HT_.out (by kernel_rfl)) (by decide) (fun K hK => ?_)
                   refine Kd.R_lit_step (Kd.int .i64) _ 3 ?hg (N := 63) ?hd (xs := ([a3] : List Int)) (inner := [.int .i64 a3]) (ok := fun _ => True) (okp := fun _ => True) ?hr ?hp (fun _ hk => hk) trivial (Below.refl _ _) (Nat.le_refl _) (by simp) ?_; (case hd => rfl); (case hg => rfl); (case hr => first | (go_simp; done) | (go_simp; rfl)); (case hp => exact (Reps.one (show Kd.M (Kd.int .i64) _ _ _ a3 [.int .i64 a3] from rfl) (Reps.none _ _)))
                   intro v408 w40 ho41 hb hg_ hnew_
                   clear hg_ hnew_
                   (first | rw [← Ny407.out] at ho41 | (simp only [Int.reduceToNat] at ho41; rw [← Ny407.out] at ho41))
                   have n0_ := Aside0.mk (Kd.R_elder' (by (with_reducible repeat (first | apply Kd.R_alloc | apply Kd.R_drewN | apply Kd.R_drew)); exact HO406.out) (Kd.R_base ho41) hb)
                   have n1_ := Aside0.mk (Kd.R_lower (Kd.R_new' ho41 (Kd.R_lt (by (with_reducible repeat (first | apply Kd.R_alloc | apply Kd.R_drewN | apply Kd.R_drew)); exact HO406.out))) (below_size (by repeat (first | (with_reducible first | exact HB.out | apply below_alloc | apply pw_below_drewN | apply below_drew1) | exact HB.out))))
                   have n2_ := Aside0.mk (below_step (by repeat (first | (with_reducible first | exact HB.out | apply below_alloc | apply pw_below_drewN | apply below_drew1) | exact HB.out)) hb)
                   clear HO406
                   clear HB
                   have HO406 := n0_
                   have HO409 := n1_
                   have HB := n2_
                   clear n0_ n1_ n2_
                   clear hb ho41
                   refine hK.out _ _ trivial (fun hHeld => ?_)
                   clear hK K
                   refine norm_ (a' := ?_) ?_ ?_
                   rotate_left
                   ·show Act.put _ (some 63) _ = _
                    simp only [Act.put, List.setIfInBounds_toArray, List.set_cons_zero, List.set_cons_succ, i64_w, i32_w]
                    rfl
                   exact norm_ (by simp only [putAll, Act.put, List.setIfInBounds_toArray, List.set_cons_zero, List.set_cons_succ]) (hCont (v401, v405, v408) _ ⟨(by (with_reducible repeat (first | apply Kd.R_alloc | apply Kd.R_drewN | apply Kd.R_drew)); exact Kd.R_mono HO406.out (fun _ hk => hk.2)), (by (with_reducible repeat (first | apply Kd.R_alloc | apply Kd.R_drewN | apply Kd.R_drew)); exact Kd.R_mono HO409.out (fun _ hk => hk.2)), (by repeat (first | (with_reducible first | exact HB.out | apply below_alloc | apply pw_below_drewN | apply below_drew1) | exact HB.out))⟩)
                  ·skip
                   refine Kd.R_lit_step (Kd.int .i64) _ 3 ?hg (N := 63) ?hd (xs := ([a3] : List Int)) (inner := [.int .i64 a3]) (ok := fun _ => True) (okp := fun _ => True) ?hr ?hp (fun _ hk => hk) trivial (Below.refl _ _) (Nat.le_refl _) (by simp) ?_; (case hd => rfl); (case hg => rfl); (case hr => first | (go_simp; done) | (go_simp; rfl)); (case hp => exact (Reps.one (show Kd.M (Kd.int .i64) _ _ _ a3 [.int .i64 a3] from rfl) (Reps.none _ _)))
                   intro v408 w39 ho40 hb hg_ hnew_
                   clear hg_ hnew_
                   (first | rw [← Ny407.out] at ho40 | (simp only [Int.reduceToNat] at ho40; rw [← Ny407.out] at ho40))
                   have n0_ := Aside0.mk (Kd.R_elder' (by (with_reducible repeat (first | apply Kd.R_alloc | apply Kd.R_drewN | apply Kd.R_drew)); exact HO402.out) (Kd.R_base ho40) hb)
                   have n1_ := Aside0.mk (Kd.R_lower (Kd.R_new' ho40 (Kd.R_lt (by (with_reducible repeat (first | apply Kd.R_alloc | apply Kd.R_drewN | apply Kd.R_drew)); exact HO402.out))) (below_size (by repeat (first | (with_reducible first | exact HB.out | apply below_alloc | apply pw_below_drewN | apply below_drew1) | exact HB.out))))
                   have n2_ := Aside0.mk (below_step (by repeat (first | (with_reducible first | exact HB.out | apply below_alloc | apply pw_below_drewN | apply below_drew1) | exact HB.out)) hb)
                   clear HO402
                   clear HB
                   have HO402 := n0_
                   have HO409 := n1_
                   have HB := n2_
                   clear n0_ n1_ n2_
                   clear hb ho40
                   refine hK.out _ _ trivial (fun hHeld => ?_)
                   clear hK K
                   refine norm_ (a' := ?_) ?_ ?_
                   rotate_left
                   ·show Act.put _ (some 63) _ = _
                    simp only [Act.put, List.setIfInBounds_toArray, List.set_cons_zero, List.set_cons_succ, i64_w, i32_w]
                    rfl
                   refine one_ (i := 4) (N := some 61) #[true, true, true, true, true, true, true, false, true, true, true, false, true, false, false, false, false, false, false] rfl rfl (one_of HT_.out (by kernel_rfl)) (by decide) (fun K hK => ?_)
                   refine Kd.R_append_rows_step (Kd.int .i64) (w0 := w) w.heap.size (by rfl) (.tmp 57) (.tmp 60) 22 3 (.int .i64 0) 8 rfl Try.underlying22 info3 rfl (by decide) (by omega) v401 y400 (l0.take ((ji17) : Int).toNat) _ _ _ (fun k_ => some k_ ≠ (v408 : Value).ownBlock) (fun _ => False) rfl rfl ?aO ?aR (fun _ _ h => h) (fun _ h => h.elim) ?aF ?aB ?aS ?aL ?_
                   (case aR => first | (have h_ := (Kd.C_below HR403.out HB.out); rw [show (l0.take ((ji17) : Int).toNat).length = (ji17).toNat from (by rw [List.length_take]; have h_ : ((ji17) : Int) ≤ (l0.length : Int) := of_decide_eq_true (by first | (with_reducible assumption) | assumption); omega)] at h_; exact h_) | (rw [← show (l0.take ((ji17) : Int).toNat).length = (ji17).toNat from (by rw [List.length_take]; have h_ : ((ji17) : Int) ≤ (l0.length : Int) := of_decide_eq_true (by first | (with_reducible assumption) | assumption); omega)]; repeat (first | exact (Kd.C_below HR403.out HB.out) | (with_reducible refine Kd.C_alloc ?_ _) | (with_reducible refine Kd.C_drewN ?_ _) | (with_reducible refine Kd.C_drew ?_))) | (repeat (first | exact (Kd.C_below HR403.out HB.out) | (with_reducible refine Kd.C_alloc ?_ _) | (with_reducible refine Kd.C_drewN ?_ _) | (with_reducible refine Kd.C_drew ?_))))
                   (case aB => exact (by repeat (first | (with_reducible first | exact HB.out | apply below_alloc | apply pw_below_drewN | apply below_drew1) | exact HB.out)))
                   (case aF => exact (fun k_ hk => Kd.fresh' (Kd.R_lt (by (with_reducible repeat (first | apply Kd.R_alloc | apply Kd.R_drewN | apply Kd.R_drew)); exact HO409.out)) k_ hk))
                   (case aO => exact (by (with_reducible repeat (first | apply Kd.R_alloc | apply Kd.R_drewN | apply Kd.R_drew)); exact Kd.R_mono HO402.out (fun _ hk => hk.2)))
                   (case aS => exact (below_size (by repeat (first | (with_reducible first | exact HB.out | apply below_alloc | apply pw_below_drewN | apply below_drew1) | exact HB.out))))
                   (case aL => have := LMc20.out; have hlx_ := (show (l0.take ((ji17) : Int).toNat).length = (ji17).toNat from (by rw [List.length_take]; have h_ : ((ji17) : Int) ≤ (l0.length : Int) := of_decide_eq_true (by first | (with_reducible assumption) | assumption); omega)); omega)
                   intro v405 w41 ho hb hg hat
                   rw [← Ny404.out] at ho
                   have n0_ := Aside0.mk (Kd.R_after (ok := (fun _ => True)) (by (with_reducible repeat (first | apply Kd.R_alloc | apply Kd.R_drewN | apply Kd.R_drew)); exact HO409.out) hg hat)
                   have n1_ := Aside0.mk (hb)
                   have n2_ := Aside0.mk (ho)
                   clear HO409
                   clear HB
                   clear HO402
                   have HO409 := n0_
                   have HB := n1_
                   have HO406 := n2_
                   clear n0_ n1_ n2_
                   clear ho hb hg hat
                   refine hK.out _ _ trivial (fun hHeld => ?_)
                   clear hK K
                   refine norm_ (a' := ?_) ?_ ?_
                   rotate_left
                   ·show Act.put _ (some 61) _ = _
                    simp only [Act.put, List.setIfInBounds_toArray, List.set_cons_zero, List.set_cons_succ, i64_w, i32_w]
                    rfl
                   exact norm_ (by simp only [putAll, Act.put, List.setIfInBounds_toArray, List.set_cons_zero, List.set_cons_succ]) (hCont (v401, v405, v408) _ ⟨(by (with_reducible repeat (first | apply Kd.R_alloc | apply Kd.R_drewN | apply Kd.R_drew)); exact HO406.out), (by (with_reducible repeat (first | apply Kd.R_alloc | apply Kd.R_drewN | apply Kd.R_drew)); exact Kd.R_mono HO409.out (fun _ hk => hk.2)), (by repeat (first | (with_reducible first | exact HB.out | apply below_alloc | apply pw_below_drewN | apply below_drew1) | exact HB.out))⟩)
                 ·skip
                  refine Kd.R_lit_step (Kd.int .i64) _ 3 ?hg (N := 63) ?hd (xs := ([a3] : List Int)) (inner := [.int .i64 a3]) (ok := fun _ => True) (okp := fun _ => True) ?hr ?hp (fun _ hk => hk) trivial (Below.refl _ _) (Nat.le_refl _) (by simp) ?_; (case hd => rfl); (case hg => rfl); (case hr => first | (go_simp; done) | (go_simp; rfl)); (case hp => exact (Reps.one (show Kd.M (Kd.int .i64) _ _ _ a3 [.int .i64 a3] from rfl) (Reps.none _ _)))
                  intro v408 w37 ho38 hb hg_ hnew_
                  clear hg_ hnew_
                  (first | rw [← Ny407.out] at ho38 | (simp only [Int.reduceToNat] at ho38; rw [← Ny407.out] at ho38))
                  have n0_ := Aside0.mk (Kd.R_lower ho38 (below_size (by repeat (first | (with_reducible first | exact HB.out | apply below_alloc | apply pw_below_drewN | apply below_drew1) | exact HB.out))))
                  have n1_ := Aside0.mk (below_step (by repeat (first | (with_reducible first | exact HB.out | apply below_alloc | apply pw_below_drewN | apply below_drew1) | exact HB.out)) hb)
                  clear HB
                  have HO409 := n0_
                  have HB := n1_
                  clear n0_ n1_
                  clear hb ho38
                  refine hK.out _ _ trivial (fun hHeld => ?_)
                  clear hK K
                  refine norm_ (a' := ?_) ?_ ?_
                  rotate_left
                  ·show Act.put _ (some 63) _ = _
                   simp only [Act.put, List.setIfInBounds_toArray, List.set_cons_zero, List.set_cons_succ, i64_w, i32_w]
                   rfl
                  refine one_ (i := 0) (N := some 57) #[true, true, true, true, false, true, true, false, true, true, true, false, true, false, false, false, false, false, false] rfl rfl (one_of HT_.out (by kernel_rfl)) (by decide) (fun K hK => ?_)
                  refine Kd.R_lit_step (Kd.int .i64) _ 3 ?hg (N := 57) ?hd (xs := ([] : List Int)) (inner := []) (ok := fun _ => True) (okp := fun _ => True) ?hr ?hp (fun _ hk => hk) trivial (Below.refl _ _) (Nat.le_refl _) (by simp) ?_; (case hd => rfl); (case hg => rfl); (case hr => first | (go_simp; done) | (go_simp; rfl)); (case hp => exact (Reps.none _ _))
                  intro v401 w39 ho40 hb hg_ hnew_
                  clear hg_ hnew_
                  (first | rw [← Ny400.out] at ho40 | (simp only [Int.reduceToNat] at ho40; rw [← Ny400.out] at ho40))
                  have n0_ := Aside0.mk (Kd.R_elder' (by (with_reducible repeat (first | apply Kd.R_alloc | apply Kd.R_drewN | apply Kd.R_drew)); exact HO409.out) (Kd.R_base ho40) hb)
                  have n1_ := Aside0.mk (Kd.R_lower (Kd.R_new' ho40 (Kd.R_lt (by (with_reducible repeat (first | apply Kd.R_alloc | apply Kd.R_drewN | apply Kd.R_drew)); exact HO409.out))) (below_size (by repeat (first | (with_reducible first | exact HB.out | apply below_alloc | apply pw_below_drewN | apply below_drew1) | exact HB.out))))
                  have n2_ := Aside0.mk (below_step (by repeat (first | (with_reducible first | exact HB.out | apply below_alloc | apply pw_below_drewN | apply below_drew1) | exact HB.out)) hb)
                  clear HO409
                  clear HB
                  have HO409 := n0_
                  have HO402 := n1_
                  have HB := n2_
                  clear n0_ n1_ n2_
                  clear hb ho40
                  refine hK.out _ _ trivial (fun hHeld => ?_)
                  clear hK K
                  refine norm_ (a' := ?_) ?_ ?_
                  rotate_left
                  ·show Act.put _ (some 57) _ = _
                   simp only [Act.put, List.setIfInBounds_toArray, List.set_cons_zero, List.set_cons_succ, i64_w, i32_w]
                   rfl
                  refine one_ (i := 4) (N := some 61) #[true, true, true, true, true, true, true, false, true, true, true, false, true, false, false, false, false, false, false] rfl rfl (one_of HT_.out (by kernel_rfl)) (by decide) (fun K hK => ?_)
                  refine Kd.R_append_rows_step (Kd.int .i64) (w0 := w) w.heap.size (by rfl) (.tmp 57) (.tmp 60) 22 3 (.int .i64 0) 8 rfl Try.underlying22 info3 rfl (by decide) (by omega) v401 y400 (l0.take ((ji17) : Int).toNat) _ _ _ (fun k_ => some k_ ≠ (v408 : Value).ownBlock) (fun _ => False) rfl rfl ?aO ?aR (fun _ _ h => h) (fun _ h => h.elim) ?aF ?aB ?aS ?aL ?_
                  (case aR => first | (have h_ := (Kd.C_below HR403.out HB.out); rw [show (l0.take ((ji17) : Int).toNat).length = (ji17).toNat from (by rw [List.length_take]; have h_ : ((ji17) : Int) ≤ (l0.length : Int) := of_decide_eq_true (by first | (with_reducible assumption) | assumption); omega)] at h_; exact h_) | (rw [← show (l0.take ((ji17) : Int).toNat).length = (ji17).toNat from (by rw [List.length_take]; have h_ : ((ji17) : Int) ≤ (l0.length : Int) := of_decide_eq_true (by first | (with_reducible assumption) | assumption); omega)]; repeat (first | exact (Kd.C_below HR403.out HB.out) | (with_reducible refine Kd.C_alloc ?_ _) | (with_reducible refine Kd.C_drewN ?_ _) | (with_reducible refine Kd.C_drew ?_))) | (repeat (first | exact (Kd.C_below HR403.out HB.out) | (with_reducible refine Kd.C_alloc ?_ _) | (with_reducible refine Kd.C_drewN ?_ _) | (with_reducible refine Kd.C_drew ?_))))
                  (case aB => exact (by repeat (first | (with_reducible first | exact HB.out | apply below_alloc | apply pw_below_drewN | apply below_drew1) | exact HB.out)))
                  (case aF => exact (fun k_ hk => Kd.fresh' (Kd.R_lt (by (with_reducible repeat (first | apply Kd.R_alloc | apply Kd.R_drewN | apply Kd.R_drew)); exact HO409.out)) k_ hk))
                  (case aO => exact (by (with_reducible repeat (first | apply Kd.R_alloc | apply Kd.R_drewN | apply Kd.R_drew)); exact Kd.R_mono HO402.out (fun _ hk => hk.2)))
                  (case aS => exact (below_size (by repeat (first | (with_reducible first | exact HB.out | apply below_alloc | apply pw_below_drewN | apply below_drew1) | exact HB.out))))
                  (case aL => have := LMc20.out; have hlx_ := (show (l0.take ((ji17) : Int).toNat).length = (ji17).toNat from (by rw [List.length_take]; have h_ : ((ji17) : Int) ≤ (l0.length : Int) := of_decide_eq_true (by first | (with_reducible assumption) | assumption); omega)); omega)
                  intro v405 w41 ho hb hg hat
                  rw [← Ny404.out] at ho
                  have n0_ := Aside0.mk (Kd.R_after (ok := (fun _ => True)) (by (with_reducible repeat (first | apply Kd.R_alloc | apply Kd.R_drewN | apply Kd.R_drew)); exact HO409.out) hg hat)
                  have n1_ := Aside0.mk (hb)
                  have n2_ := Aside0.mk (ho)
                  clear HO409
                  clear HB
                  clear HO402
                  have HO409 := n0_
                  have HB := n1_
                  have HO406 := n2_
                  clear n0_ n1_ n2_
                  clear ho hb hg hat
                  refine hK.out _ _ trivial (fun hHeld => ?_)
                  clear hK K
                  refine norm_ (a' := ?_) ?_ ?_
                  rotate_left
                  ·show Act.put _ (some 61) _ = _
                   simp only [Act.put, List.setIfInBounds_toArray, List.set_cons_zero, List.set_cons_succ, i64_w, i32_w]
                   rfl
                  exact norm_ (by simp only [putAll, Act.put, List.setIfInBounds_toArray, List.set_cons_zero, List.set_cons_succ]) (hCont (v401, v405, v408) _ ⟨(by (with_reducible repeat (first | apply Kd.R_alloc | apply Kd.R_drewN | apply Kd.R_drew)); exact HO406.out), (by (with_reducible repeat (first | apply Kd.R_alloc | apply Kd.R_drewN | apply Kd.R_drew)); exact Kd.R_mono HO409.out (fun _ hk => hk.2)), (by repeat (first | (with_reducible first | exact HB.out | apply below_alloc | apply pw_below_drewN | apply below_drew1) | exact HB.out))⟩)
                rintro ⟨v401, v405, v408⟩ w42 ⟨h0_, h1_, h2_⟩
                have n0_ : Aside0 (Kd.R (Kd.int .i64) 3 w42 w.heap.size (fun k_ => some k_ ≠ (v408 : Value).ownBlock) v405 y404) := ⟨h0_⟩
                have n1_ : Aside0 (Kd.R (Kd.int .i64) 3 w42 w.heap.size (fun k_ => some k_ ≠ (v405 : Value).ownBlock) v408 y407) := ⟨h1_⟩
                have n2_ : Aside0 (Below w.heap.size w w42) := ⟨h2_⟩
                clear HB
                clear h0_ h1_ h2_
                have HO406 := n0_
                have HO409 := n1_
                have HB := n2_
                clear n0_ n1_ n2_
                have hHeld := trivial
                obtain ⟨Ao44, co44, eo44⟩ := Kd.R_slice HO409.out
                (first | subst eo44 | (injection eo44 with f1_ f2_ f3_; have f4_ := f1_.symm; have f5_ := f3_.symm; clear f1_ f2_ f3_; subst f4_; subst f5_))
                refine norm_ (a' := ?_) ?_ ?_
                rotate_left
                ·simp only [putAll, Act.put, List.setIfInBounds_toArray, List.set_cons_zero, List.set_cons_succ]
                 rfl
                refine one_ (i := 7) (N := some 64) #[true, true, true, true, true, true, true, true, true, true, true, false, true, false, false, false, false, false, false] rfl rfl (one_of HT_.out (by kernel_rfl)) (by decide) (fun K hK => ?_)
                refine Kd.R_append_rows_step (Kd.int .i64) (w0 := w) w.heap.size (by rfl) (.tmp 61) (.tmp 63) 22 3 (.int .i64 0) 8 rfl Try.underlying22 info3 rfl (by decide) (by omega) v405 y404 y407 _ _ _ (fun k_ => some k_ ≠ (.slice Ao44 y407.length co44 : Value).ownBlock) (fun _ => False) rfl rfl ?aO ?aR (fun _ _ h => h) (fun _ h => h.elim) ?aF ?aB ?aS ?aL ?_
                (case aR => repeat (first | exact (Kd.R_reads' HO409.out).2.2 | (with_reducible refine Kd.C_alloc ?_ _) | (with_reducible refine Kd.C_drewN ?_ _) | (with_reducible refine Kd.C_drew ?_)))
                (case aB => exact (by repeat (first | (with_reducible first | exact HB.out | apply below_alloc | apply pw_below_drewN | apply below_drew1) | exact HB.out)))
                (case aF => exact (fun k_ hk => Kd.fresh' (Kd.R_lt (by (with_reducible repeat (first | apply Kd.R_alloc | apply Kd.R_drewN | apply Kd.R_drew)); exact HO409.out)) k_ hk))
                (case aO => exact (by (with_reducible repeat (first | apply Kd.R_alloc | apply Kd.R_drewN | apply Kd.R_drew)); exact HO406.out))
                (case aS => exact (below_size (by repeat (first | (with_reducible first | exact HB.out | apply below_alloc | apply pw_below_drewN | apply below_drew1) | exact HB.out))))
                (case aL => have := LMc21.out; omega)
                intro v411 w43 ho hb hg hat
                rw [← Ny410.out] at ho
                have n0_ := Aside0.mk (Kd.R_after (ok := (fun _ => True)) (by (with_reducible repeat (first | apply Kd.R_alloc | apply Kd.R_drewN | apply Kd.R_drew)); exact Kd.R_mono HO409.out (fun _ hk => ⟨trivial, hk⟩)) hg hat)
                have n1_ := Aside0.mk (hb)
                have n2_ := Aside0.mk (ho)
                clear HO409
                clear HB
                clear HO406
                have HO409 := n0_
                have HB := n1_
                have HO412 := n2_
                clear n0_ n1_ n2_
                clear ho hb hg hat
                refine hK.out _ _ trivial (fun hHeld => ?_)
                clear hK K
                refine norm_ (a' := ?_) ?_ ?_
                rotate_left
                ·show Act.put _ (some 64) _ = _
                 simp only [Act.put, List.setIfInBounds_toArray, List.set_cons_zero, List.set_cons_succ, i64_w, i32_w]
                 rfl
                refine one_ (i := 11) (N := some 68) #[true, true, true, true, true, true, true, true, true, true, true, true, true, false, false, false, false, false, false] rfl rfl (one_of HT_.out (by kernel_rfl)) (by decide) (fun K hK => ?_)
                refine Kd.R_append_rows_step (Kd.int .i64) (w0 := w) w.heap.size (by rfl) (.tmp 64) (.tmp 67) 22 3 (.int .i64 0) 8 rfl Try.underlying22 info3 rfl (by decide) (by omega) v411 y410 (l0.drop ((ji17) : Int).toNat) _ _ _ (fun k_ => some k_ ≠ (.slice Ao44 y407.length co44 : Value).ownBlock) (fun _ => False) rfl rfl ?aO ?aR (fun _ _ h => h) (fun _ h => h.elim) ?aF ?aB ?aS ?aL ?_
                (case aR => first | (rw [← show (l0.drop ((ji17) : Int).toNat).length = (l0.length - (ji17).toNat) from List.length_drop]; repeat (first | exact (Kd.C_below HR413.out HB.out) | (with_reducible refine Kd.C_alloc ?_ _) | (with_reducible refine Kd.C_drewN ?_ _) | (with_reducible refine Kd.C_drew ?_))) | (repeat (first | exact (Kd.C_below HR413.out HB.out) | (with_reducible refine Kd.C_alloc ?_ _) | (with_reducible refine Kd.C_drewN ?_ _) | (with_reducible refine Kd.C_drew ?_))))
                (case aB => exact (by repeat (first | (with_reducible first | exact HB.out | apply below_alloc | apply pw_below_drewN | apply below_drew1) | exact HB.out)))
                (case aF => exact (fun k_ hk => Kd.fresh' (Kd.R_lt (by (with_reducible repeat (first | apply Kd.R_alloc | apply Kd.R_drewN | apply Kd.R_drew)); exact HO409.out)) k_ hk))
                (case aO => exact (by (with_reducible repeat (first | apply Kd.R_alloc | apply Kd.R_drewN | apply Kd.R_drew)); exact HO412.out))
                (case aS => exact (below_size (by repeat (first | (with_reducible first | exact HB.out | apply below_alloc | apply pw_below_drewN | apply below_drew1) | exact HB.out))))
                (case aL => have := LMc24.out; have hlx_ := (show (l0.drop ((ji17) : Int).toNat).length = (l0.length - (ji17).toNat) from List.length_drop); omega)
                intro v415 w45 ho hb hg hat
                rw [← Ny414.out] at ho
                have n0_ := Aside0.mk (Kd.R_after (ok := (fun _ => True)) (by (with_reducible repeat (first | apply Kd.R_alloc | apply Kd.R_drewN | apply Kd.R_drew)); exact HO409.out) hg hat)
                have n1_ := Aside0.mk (hb)
                have n2_ := Aside0.mk (ho)
                clear HO409
                clear HB
                clear HO412
                have HO409 := n0_
                have HB := n1_
                have HO416 := n2_
                clear n0_ n1_ n2_
                clear ho hb hg hat
                obtain ⟨Ao46, co46, eo46⟩ := Kd.R_slice HO416.out
                (first | subst eo46 | (injection eo46 with f1_ f2_ f3_; have f4_ := f1_.symm; have f5_ := f3_.symm; clear f1_ f2_ f3_; subst f4_; subst f5_))
                refine hK.out _ _ trivial (fun hHeld => ?_)
                clear hK K
                refine norm_ (a' := ?_) ?_ ?_
                rotate_left
                ·show Act.put _ (some 68) _ = _
                 simp only [Act.put, List.setIfInBounds_toArray, List.set_cons_zero, List.set_cons_succ, i64_w, i32_w]
                 rfl
                refine one_ (i := 13) (N := some 70) #[true, true, true, true, true, true, true, true, true, true, true, true, true, true, false, false, false, false, false] rfl rfl (one_of HT_.out (by kernel_rfl)) (by decide) (fun K hK => ?_)
                refine goes_ Try.func21 (by kernel_rfl) rfl #[.slice Ao46 y414.length co46, .slice A1 l1.length c1] (by rfl) rfl rfl (by (try simp only [List.map_toArray, List.map_cons, List.map_nil]); first | done | rfl | (simp only [List.length_drop, List.length_take]; rfl)) ?_
                with_reducible refine (minimal_Length.calls kj8 _ _ y414 _ _ l1 t417 t418 _ ?side1 ?side2 ?side3 ?side4 A25.out).mono ?_
                (case side1 => repeat (first | exact (Kd.R_reads' HO416.out).2.2 | (with_reducible refine Kd.C_alloc ?_ _) | (with_reducible refine Kd.C_drewN ?_ _) | (with_reducible refine Kd.C_drew ?_)))
                (case side2 => exact (Kd.R_reads' HO416.out).2.1)
                (case side3 => repeat (first | exact (Kd.C_below HR1.out HB.out) | (with_reducible refine Kd.C_alloc ?_ _) | (with_reducible refine Kd.C_drewN ?_ _) | (with_reducible refine Kd.C_drew ?_)))
                (case side4 => exact HC1.out)
                rintro e w47 ⟨rfl, hb⟩
                refine ⟨_, rfl, ?_⟩
                have n0_ := Aside0.mk (Kd.R_below (by (with_reducible repeat (first | apply Kd.R_alloc | apply Kd.R_drewN | apply Kd.R_drew)); exact HO409.out) hb)
                have n1_ := Aside0.mk (Kd.R_below (by (with_reducible repeat (first | apply Kd.R_alloc | apply Kd.R_drewN | apply Kd.R_drew)); exact HO416.out) hb)
                have n2_ := Aside0.mk (below_step (by repeat (first | (with_reducible first | exact HB.out | apply below_alloc | apply pw_below_drewN | apply below_drew1) | exact HB.out)) hb)
                clear HO409
                clear HO416
                clear HB
                have HO409 := n0_
                have HO416 := n1_
                have HB := n2_
                clear n0_ n1_ n2_
                (try clear hb)
                (try clear hb2)
                (try clear hk)
                (try clear hi)
                refine hK.out _ _ trivial (fun hHeld => ?_)
                clear hK K
                refine norm_ (a' := ?_) ?_ ?_
                rotate_left
                ·show Act.put _ (some 70) _ = _
                 simp only [Act.put, List.setIfInBounds_toArray, List.set_cons_zero, List.set_cons_succ, i64_w, i32_w]
                 rfl
                refine pure_ (i := 14) (N := some 56) (v := ?_) (a' := ?_) #[true, true, true, true, true, true, true, true, true, true, true, true, true, true, true, false, false, false, false] rfl rfl (any_of HT_.out (by kernel_rfl)) (fun _ _ _ h => h) (Or.inl ⟨by rfl, ?_⟩) ?_ ?_
                rotate_left
                ·intro w'
                 go_simp
                 with_reducible rfl
                rotate_left
                ·simp only [Act.put, List.setIfInBounds_toArray, List.set_cons_zero, List.set_cons_succ, i64_w, i32_w]
                 rfl
                refine pure_ (i := 15) (N := some 71) (v := ?_) (a' := ?_) #[true, true, true, true, true, true, true, true, true, true, true, true, true, true, true, true, false, false, false] rfl rfl (any_of HT_.out (by kernel_rfl)) (fun _ _ _ h => h) (Or.inl ⟨by rfl, ?_⟩) ?_ ?_
                rotate_left
                ·intro w'
                 go_simp
                 with_reducible rfl
                rotate_left
                ·simp only [Act.put, List.setIfInBounds_toArray, List.set_cons_zero, List.set_cons_succ, i64_w, i32_w]
                 rfl
                refine pure_ (i := 16) (N := some 72) (v := ?_) (a' := ?_) #[true, true, true, true, true, true, true, true, true, true, true, true, true, true, true, true, true, false, false] rfl rfl (any_of HT_.out (by kernel_rfl)) (fun _ _ _ h => h) (Or.inl ⟨by rfl, ?_⟩) ?_ ?_
                rotate_left
                ·intro w'
                 go_simp
                 with_reducible rfl
                rotate_left
                ·simp only [Act.put, List.setIfInBounds_toArray, List.set_cons_zero, List.set_cons_succ, i64_w, i32_w]
                 rfl
                refine pure_ (i := 17) (N := some 16) (v := ?_) (a' := ?_) #[true, true, true, true, true, true, true, true, true, true, true, true, true, true, true, true, true, true, false] rfl rfl (any_of HT_.out (by kernel_rfl)) (fun _ _ _ h => h) (Or.inl ⟨by rfl, ?_⟩) ?_ ?_
                rotate_left
                ·intro w'
                 go_simp
                 with_reducible rfl
                rotate_left
                ·simp only [Act.put, List.setIfInBounds_toArray, List.set_cons_zero, List.set_cons_succ, i64_w, i32_w]
                 rfl
                refine pure_ (i := 18) (N := some 17) (v := ?_) (a' := ?_) #[true, true, true, true, true, true, true, true, true, true, true, true, true, true, true, true, true, true, true] rfl rfl (any_of HT_.out (by kernel_rfl)) (fun _ _ _ h => h) (Or.inl ⟨by rfl, ?_⟩) ?_ ?_
                rotate_left
                ·intro w'
                 go_simp
                 with_reducible rfl
                rotate_left
                ·simp only [Act.put, List.setIfInBounds_toArray, List.set_cons_zero, List.set_cons_succ, i64_w, i32_w]
                 rfl
                refine done_ (done_of HT_.out (by kernel_rfl)) ?_
                go_upto_region 10 with (first | ((with_reducible refine gate_callee (f := 21) rfl ?_); refine goesL_ (some 76) rfl rfl Try.func21 (by kernel_rfl) rfl #[.slice A4 l4.length c4, .slice A5 l5.length c5] rfl (by (try simp only [List.map_toArray, List.map_cons, List.map_nil]); first | done | rfl | (simp only [List.length_drop, List.length_take]; rfl)) ?_; (with_reducible refine (minimal_Length.calls kj8 _ _ l4 _ _ l5 t419 t420 _ ?side1 ?side2 ?side3 ?side4 A26.out).mono ?_); (case side1 => repeat (first | exact (Kd.C_below HR4.out HB.out) | (with_reducible refine Kd.C_alloc ?_ _) | (with_reducible refine Kd.C_drewN ?_ _) | (with_reducible refine Kd.C_drew ?_))); (case side2 => exact HC4.out); (case side3 => repeat (first | exact (Kd.C_below HR5.out HB.out) | (with_reducible refine Kd.C_alloc ?_ _) | (with_reducible refine Kd.C_drewN ?_ _) | (with_reducible refine Kd.C_drew ?_))); (case side4 => exact HC5.out); rintro e w48 ⟨rfl, hb⟩; refine ⟨_, rfl, ?_⟩; have n0_ := Aside0.mk (Kd.R_below (by (with_reducible repeat (first | apply Kd.R_alloc | apply Kd.R_drewN | apply Kd.R_drew)); exact HO409.out) hb); have n1_ := Aside0.mk (Kd.R_below (by (with_reducible repeat (first | apply Kd.R_alloc | apply Kd.R_drewN | apply Kd.R_drew)); exact HO416.out) hb); have n2_ := Aside0.mk (below_step (by repeat (first | (with_reducible first | exact HB.out | apply below_alloc | apply pw_below_drewN | apply below_drew1) | exact HB.out)) hb); clear HO409; clear HO416; clear HB; have HO409 := n0_; have HO416 := n1_; have HB := n2_; clear n0_ n1_ n2_; (try clear hb); (try clear hb2); (try clear hk); (try clear hi)) | ((with_reducible refine gate_dst (N := 80) rfl ?_); (try (refine gate_guard (by rfl) ?_; dsimp only)); refine Kd.R_lit (Kd.int .i64) _ 3 ?hg (N := 80) ?hd (xs := ([] : List Int)) (inner := []) (ok := fun _ => True) (okp := fun _ => True) ?hr ?hp (fun _ hk => hk) trivial (Below.refl _ _) (Nat.le_refl _) (by simp) ?_; (case hd => rfl); (case hg => rfl); (case hr => first | (go_simp; done) | (go_simp; rfl)); (case hp => exact (Reps.none _ _)); intro v422 w49 ho50 hb hg_ hnew_; clear hg_ hnew_; (first | rw [← Ny421.out] at ho50 | (simp only [Int.reduceToNat] at ho50; rw [← Ny421.out] at ho50)); have n0_ := Aside0.mk (Kd.R_elder' (by (with_reducible repeat (first | apply Kd.R_alloc | apply Kd.R_drewN | apply Kd.R_drew)); exact HO409.out) (Kd.R_base ho50) hb); have n1_ := Aside0.mk (Kd.R_elder' (by (with_reducible repeat (first | apply Kd.R_alloc | apply Kd.R_drewN | apply Kd.R_drew)); exact HO416.out) (Kd.R_base ho50) hb); have n2_ := Aside0.mk (Kd.R_lower (Kd.R_new' (Kd.R_new' ho50 (Kd.R_lt (by (with_reducible repeat (first | apply Kd.R_alloc | apply Kd.R_drewN | apply Kd.R_drew)); exact HO409.out))) (Kd.R_lt (by (with_reducible repeat (first | apply Kd.R_alloc | apply Kd.R_drewN | apply Kd.R_drew)); exact HO416.out))) (below_size (by repeat (first | (with_reducible first | exact HB.out | apply below_alloc | apply pw_below_drewN | apply below_drew1) | exact HB.out)))); have n3_ := Aside0.mk (below_step (by repeat (first | (with_reducible first | exact HB.out | apply below_alloc | apply pw_below_drewN | apply below_drew1) | exact HB.out)) hb); clear HO409; clear HO416; clear HB; have HO409 := n0_; have HO416 := n1_; have HO423 := n2_; have HB := n3_; clear n0_ n1_ n2_ n3_; clear hb ho50) | ((with_reducible refine gate_builtin (b := .append) (xs := #[.tmp 80, .tmp 81]) rfl ?_); (try (refine gate_guard (by rfl) ?_; dsimp only)); at_builtin; refine Kd.R_append_rows (Kd.int .i64) (w0 := w) w.heap.size rfl (.tmp 80) (.tmp 81) 22 3 (.int .i64 0) 8 rfl Try.underlying22 info3 rfl (by decide) (by omega) v422 y421 l0 _ _ _ (fun k_ => some k_ ≠ (.slice Ao44 y407.length co44 : Value).ownBlock ∧ some k_ ≠ (.slice Ao46 y414.length co46 : Value).ownBlock) (fun _ => False) rfl rfl ?aO ?aR (fun _ _ h => h) (fun _ h => h.elim) ?aF ?aB ?aS ?aL ?_; (case aR => repeat (first | exact (Kd.C_below HR0.out HB.out) | (with_reducible refine Kd.C_alloc ?_ _) | (with_reducible refine Kd.C_drewN ?_ _) | (with_reducible refine Kd.C_drew ?_))); (case aB => exact (by repeat (first | (with_reducible first | exact HB.out | apply below_alloc | apply pw_below_drewN | apply below_drew1) | exact HB.out))); (case aF => exact (fun k_ hk => ⟨Kd.fresh' (Kd.R_lt (by (with_reducible repeat (first | apply Kd.R_alloc | apply Kd.R_drewN | apply Kd.R_drew)); exact HO409.out)) k_ hk, Kd.fresh' (Kd.R_lt (by (with_reducible repeat (first | apply Kd.R_alloc | apply Kd.R_drewN | apply Kd.R_drew)); exact HO416.out)) k_ hk⟩)); (case aO => exact (by (with_reducible repeat (first | apply Kd.R_alloc | apply Kd.R_drewN | apply Kd.R_drew)); exact Kd.R_mono HO423.out (fun _ hk => ⟨hk.1.2, hk.2⟩))); (case aS => exact (below_size (by repeat (first | (with_reducible first | exact HB.out | apply below_alloc | apply pw_below_drewN | apply below_drew1) | exact HB.out)))); (case aL => have := LMc27.out; omega); intro v425 w51 ho hb hg hat; rw [← Ny424.out] at ho; have n0_ := Aside0.mk (Kd.R_after (ok := (fun k_ => some k_ ≠ (.slice Ao46 y414.length co46 : Value).ownBlock)) (by (with_reducible repeat (first | apply Kd.R_alloc | apply Kd.R_drewN | apply Kd.R_drew)); exact Kd.R_mono HO409.out (fun _ hk => ⟨hk.1.2, hk.2⟩)) hg hat); have n1_ := Aside0.mk (Kd.R_after (ok := (fun k_ => some k_ ≠ (.slice Ao44 y407.length co44 : Value).ownBlock)) (by (with_reducible repeat (first | apply Kd.R_alloc | apply Kd.R_drewN | apply Kd.R_drew)); exact HO416.out) hg hat); have n2_ := Aside0.mk (hb); have n3_ := Aside0.mk (ho); clear HO409; clear HO416; clear HB; clear HO423; have HO409 := n0_; have HO416 := n1_; have HB := n2_; have HO426 := n3_; clear n0_ n1_ n2_ n3_; clear ho hb hg hat) | ((with_reducible refine gate_builtin (b := .append) (xs := #[.tmp 82, .tmp 83]) rfl ?_); (try (refine gate_guard (by rfl) ?_; dsimp only)); at_builtin; refine Kd.R_append_rows (Kd.int .i64) (w0 := w) w.heap.size rfl (.tmp 82) (.tmp 83) 22 3 (.int .i64 0) 8 rfl Try.underlying22 info3 rfl (by decide) (by omega) v425 y424 l4 _ _ _ (fun k_ => some k_ ≠ (.slice Ao44 y407.length co44 : Value).ownBlock ∧ some k_ ≠ (.slice Ao46 y414.length co46 : Value).ownBlock) (fun _ => False) rfl rfl ?aO ?aR (fun _ _ h => h) (fun _ h => h.elim) ?aF ?aB ?aS ?aL ?_; (case aR => repeat (first | exact (Kd.C_below HR4.out HB.out) | (with_reducible refine Kd.C_alloc ?_ _) | (with_reducible refine Kd.C_drewN ?_ _) | (with_reducible refine Kd.C_drew ?_))); (case aB => exact (by repeat (first | (with_reducible first | exact HB.out | apply below_alloc | apply pw_below_drewN | apply below_drew1) | exact HB.out))); (case aF => exact (fun k_ hk => ⟨Kd.fresh' (Kd.R_lt (by (with_reducible repeat (first | apply Kd.R_alloc | apply Kd.R_drewN | apply Kd.R_drew)); exact HO409.out)) k_ hk, Kd.fresh' (Kd.R_lt (by (with_reducible repeat (first | apply Kd.R_alloc | apply Kd.R_drewN | apply Kd.R_drew)); exact HO416.out)) k_ hk⟩)); (case aO => exact (by (with_reducible repeat (first | apply Kd.R_alloc | apply Kd.R_drewN | apply Kd.R_drew)); exact HO426.out)); (case aS => exact (below_size (by repeat (first | (with_reducible first | exact HB.out | apply below_alloc | apply pw_below_drewN | apply below_drew1) | exact HB.out)))); (case aL => have := LMc28.out; omega); intro v428 w52 ho hb hg hat; rw [← Ny427.out] at ho; have n0_ := Aside0.mk (Kd.R_after (ok := (fun k_ => some k_ ≠ (.slice Ao46 y414.length co46 : Value).ownBlock)) (by (with_reducible repeat (first | apply Kd.R_alloc | apply Kd.R_drewN | apply Kd.R_drew)); exact HO409.out) hg hat); have n1_ := Aside0.mk (Kd.R_after (ok := (fun k_ => some k_ ≠ (.slice Ao44 y407.length co44 : Value).ownBlock)) (by (with_reducible repeat (first | apply Kd.R_alloc | apply Kd.R_drewN | apply Kd.R_drew)); exact HO416.out) hg hat); have n2_ := Aside0.mk (hb); have n3_ := Aside0.mk (ho); clear HO409; clear HO416; clear HB; clear HO426; have HO409 := n0_; have HO416 := n1_; have HB := n2_; have HO429 := n3_; clear n0_ n1_ n2_ n3_; clear ho hb hg hat) | ((with_reducible refine gate_dst (N := 85) rfl ?_); (try (refine gate_guard (by rfl) ?_; dsimp only)); refine Kd.R_lit (Kd.int .i64) _ 3 ?hg (N := 85) ?hd (xs := ([] : List Int)) (inner := []) (ok := fun _ => True) (okp := fun _ => True) ?hr ?hp (fun _ hk => hk) trivial (Below.refl _ _) (Nat.le_refl _) (by simp) ?_; (case hd => rfl); (case hg => rfl); (case hr => first | (go_simp; done) | (go_simp; rfl)); (case hp => exact (Reps.none _ _)); intro v431 w53 ho54 hb hg_ hnew_; clear hg_ hnew_; (first | rw [← Ny430.out] at ho54 | (simp only [Int.reduceToNat] at ho54; rw [← Ny430.out] at ho54)); have n0_ := Aside0.mk (Kd.R_elder' (by (with_reducible repeat (first | apply Kd.R_alloc | apply Kd.R_drewN | apply Kd.R_drew)); exact HO409.out) (Kd.R_base ho54) hb); have n1_ := Aside0.mk (Kd.R_elder' (by (with_reducible repeat (first | apply Kd.R_alloc | apply Kd.R_drewN | apply Kd.R_drew)); exact HO416.out) (Kd.R_base ho54) hb); have n2_ := Aside0.mk (Kd.R_elder' (by (with_reducible repeat (first | apply Kd.R_alloc | apply Kd.R_drewN | apply Kd.R_drew)); exact HO429.out) (Kd.R_base ho54) hb); have n3_ := Aside0.mk (Kd.R_lower (Kd.R_new' (Kd.R_new' (Kd.R_new' ho54 (Kd.R_lt (by (with_reducible repeat (first | apply Kd.R_alloc | apply Kd.R_drewN | apply Kd.R_drew)); exact HO409.out))) (Kd.R_lt (by (with_reducible repeat (first | apply Kd.R_alloc | apply Kd.R_drewN | apply Kd.R_drew)); exact HO416.out))) (Kd.R_lt (by (with_reducible repeat (first | apply Kd.R_alloc | apply Kd.R_drewN | apply Kd.R_drew)); exact HO429.out))) (below_size (by repeat (first | (with_reducible first | exact HB.out | apply below_alloc | apply pw_below_drewN | apply below_drew1) | exact HB.out)))); have n4_ := Aside0.mk (below_step (by repeat (first | (with_reducible first | exact HB.out | apply below_alloc | apply pw_below_drewN | apply below_drew1) | exact HB.out)) hb); clear HO409; clear HO416; clear HO429; clear HB; have HO409 := n0_; have HO416 := n1_; have HO429 := n2_; have HO432 := n3_; have HB := n4_; clear n0_ n1_ n2_ n3_ n4_; clear hb ho54) | ((with_reducible refine gate_builtin (b := .append) (xs := #[.tmp 85, .tmp 86]) rfl ?_); (try (refine gate_guard (by rfl) ?_; dsimp only)); at_builtin; refine Kd.R_append_rows (Kd.int .i64) (w0 := w) w.heap.size rfl (.tmp 85) (.tmp 86) 22 3 (.int .i64 0) 8 rfl Try.underlying22 info3 rfl (by decide) (by omega) v431 y430 l1 _ _ _ (fun k_ => some k_ ≠ (.slice Ao44 y407.length co44 : Value).ownBlock ∧ some k_ ≠ (.slice Ao46 y414.length co46 : Value).ownBlock ∧ some k_ ≠ (v428 : Value).ownBlock) (fun _ => False) rfl rfl ?aO ?aR (fun _ _ h => h) (fun _ h => h.elim) ?aF ?aB ?aS ?aL ?_; (case aR => repeat (first | exact (Kd.C_below HR1.out HB.out) | (with_reducible refine Kd.C_alloc ?_ _) | (with_reducible refine Kd.C_drewN ?_ _) | (with_reducible refine Kd.C_drew ?_))); (case aB => exact (by repeat (first | (with_reducible first | exact HB.out | apply below_alloc | apply pw_below_drewN | apply below_drew1) | exact HB.out))); (case aF => exact (fun k_ hk => ⟨Kd.fresh' (Kd.R_lt (by (with_reducible repeat (first | apply Kd.R_alloc | apply Kd.R_drewN | apply Kd.R_drew)); exact HO409.out)) k_ hk, Kd.fresh' (Kd.R_lt (by (with_reducible repeat (first | apply Kd.R_alloc | apply Kd.R_drewN | apply Kd.R_drew)); exact HO416.out)) k_ hk, Kd.fresh' (Kd.R_lt (by (with_reducible repeat (first | apply Kd.R_alloc | apply Kd.R_drewN | apply Kd.R_drew)); exact HO429.out)) k_ hk⟩)); (case aO => exact (by (with_reducible repeat (first | apply Kd.R_alloc | apply Kd.R_drewN | apply Kd.R_drew)); exact Kd.R_mono HO432.out (fun _ hk => ⟨hk.1.1.2, ⟨hk.1.2, hk.2⟩⟩))); (case aS => exact (below_size (by repeat (first | (with_reducible first | exact HB.out | apply below_alloc | apply pw_below_drewN | apply below_drew1) | exact HB.out)))); (case aL => have := LMc29.out; omega); intro v434 w55 ho hb hg hat; rw [← Ny433.out] at ho; have n0_ := Aside0.mk (Kd.R_after (ok := (fun k_ => some k_ ≠ (.slice Ao46 y414.length co46 : Value).ownBlock ∧ some k_ ≠ (v428 : Value).ownBlock)) (by (with_reducible repeat (first | apply Kd.R_alloc | apply Kd.R_drewN | apply Kd.R_drew)); exact HO409.out) hg hat); have n1_ := Aside0.mk (Kd.R_after (ok := (fun k_ => some k_ ≠ (.slice Ao44 y407.length co44 : Value).ownBlock ∧ some k_ ≠ (v428 : Value).ownBlock)) (by (with_reducible repeat (first | apply Kd.R_alloc | apply Kd.R_drewN | apply Kd.R_drew)); exact HO416.out) hg hat); have n2_ := Aside0.mk (Kd.R_after (ok := (fun k_ => some k_ ≠ (.slice Ao44 y407.length co44 : Value).ownBlock ∧ some k_ ≠ (.slice Ao46 y414.length co46 : Value).ownBlock)) (by (with_reducible repeat (first | apply Kd.R_alloc | apply Kd.R_drewN | apply Kd.R_drew)); exact HO429.out) hg hat); have n3_ := Aside0.mk (hb); have n4_ := Aside0.mk (ho); clear HO409; clear HO416; clear HO429; clear HB; clear HO432; have HO409 := n0_; have HO416 := n1_; have HO429 := n2_; have HB := n3_; have HO435 := n4_; clear n0_ n1_ n2_ n3_ n4_; clear ho hb hg hat) | ((with_reducible refine gate_builtin (b := .append) (xs := #[.tmp 87, .tmp 88]) rfl ?_); (try (refine gate_guard (by rfl) ?_; dsimp only)); at_builtin; refine Kd.R_append_rows (Kd.int .i64) (w0 := w) w.heap.size rfl (.tmp 87) (.tmp 88) 22 3 (.int .i64 0) 8 rfl Try.underlying22 info3 rfl (by decide) (by omega) v434 y433 l5 _ _ _ (fun k_ => some k_ ≠ (.slice Ao44 y407.length co44 : Value).ownBlock ∧ some k_ ≠ (.slice Ao46 y414.length co46 : Value).ownBlock ∧ some k_ ≠ (v428 : Value).ownBlock) (fun _ => False) rfl rfl ?aO ?aR (fun _ _ h => h) (fun _ h => h.elim) ?aF ?aB ?aS ?aL ?_; (case aR => repeat (first | exact (Kd.C_below HR5.out HB.out) | (with_reducible refine Kd.C_alloc ?_ _) | (with_reducible refine Kd.C_drewN ?_ _) | (with_reducible refine Kd.C_drew ?_))); (case aB => exact (by repeat (first | (with_reducible first | exact HB.out | apply below_alloc | apply pw_below_drewN | apply below_drew1) | exact HB.out))); (case aF => exact (fun k_ hk => ⟨Kd.fresh' (Kd.R_lt (by (with_reducible repeat (first | apply Kd.R_alloc | apply Kd.R_drewN | apply Kd.R_drew)); exact HO409.out)) k_ hk, Kd.fresh' (Kd.R_lt (by (with_reducible repeat (first | apply Kd.R_alloc | apply Kd.R_drewN | apply Kd.R_drew)); exact HO416.out)) k_ hk, Kd.fresh' (Kd.R_lt (by (with_reducible repeat (first | apply Kd.R_alloc | apply Kd.R_drewN | apply Kd.R_drew)); exact HO429.out)) k_ hk⟩)); (case aO => exact (by (with_reducible repeat (first | apply Kd.R_alloc | apply Kd.R_drewN | apply Kd.R_drew)); exact HO435.out)); (case aS => exact (below_size (by repeat (first | (with_reducible first | exact HB.out | apply below_alloc | apply pw_below_drewN | apply below_drew1) | exact HB.out)))); (case aL => have := LMc30.out; omega); intro v437 w56 ho hb hg hat; rw [← Ny436.out] at ho; have n0_ := Aside0.mk (Kd.R_after (ok := (fun k_ => some k_ ≠ (.slice Ao46 y414.length co46 : Value).ownBlock ∧ some k_ ≠ (v428 : Value).ownBlock)) (by (with_reducible repeat (first | apply Kd.R_alloc | apply Kd.R_drewN | apply Kd.R_drew)); exact HO409.out) hg hat); have n1_ := Aside0.mk (Kd.R_after (ok := (fun k_ => some k_ ≠ (.slice Ao44 y407.length co44 : Value).ownBlock ∧ some k_ ≠ (v428 : Value).ownBlock)) (by (with_reducible repeat (first | apply Kd.R_alloc | apply Kd.R_drewN | apply Kd.R_drew)); exact HO416.out) hg hat); have n2_ := Aside0.mk (Kd.R_after (ok := (fun k_ => some k_ ≠ (.slice Ao44 y407.length co44 : Value).ownBlock ∧ some k_ ≠ (.slice Ao46 y414.length co46 : Value).ownBlock)) (by (with_reducible repeat (first | apply Kd.R_alloc | apply Kd.R_drewN | apply Kd.R_drew)); exact HO429.out) hg hat); have n3_ := Aside0.mk (hb); have n4_ := Aside0.mk (ho); clear HO409; clear HO416; clear HO429; clear HB; clear HO435; have HO409 := n0_; have HO416 := n1_; have HO429 := n2_; have HB := n3_; have HO438 := n4_; clear n0_ n1_ n2_ n3_ n4_; clear ho hb hg hat; obtain ⟨Ao57, co57, eo57⟩ := Kd.R_slice HO429.out; subst eo57; obtain ⟨Ao58, co58, eo58⟩ := Kd.R_slice HO438.out; subst eo58) | ((with_reducible refine gate_callee (f := 21) rfl ?_); refine goesL_ (some 90) rfl rfl Try.func21 (by kernel_rfl) rfl #[.slice Ao57 y427.length co57, .slice Ao58 y436.length co58] rfl (by (try simp only [List.map_toArray, List.map_cons, List.map_nil]); first | done | rfl | (simp only [List.length_drop, List.length_take]; rfl)) ?_; (with_reducible refine (minimal_Length.calls kj8 _ _ y427 _ _ y436 t439 t440 _ ?side1 ?side2 ?side3 ?side4 A31.out).mono ?_); (case side1 => repeat (first | exact (Kd.R_reads' HO429.out).2.2 | (with_reducible refine Kd.C_alloc ?_ _) | (with_reducible refine Kd.C_drewN ?_ _) | (with_reducible refine Kd.C_drew ?_))); (case side2 => exact (Kd.R_reads' HO429.out).2.1); (case side3 => repeat (first | exact (Kd.R_reads' HO438.out).2.2 | (with_reducible refine Kd.C_alloc ?_ _) | (with_reducible refine Kd.C_drewN ?_ _) | (with_reducible refine Kd.C_drew ?_))); (case side4 => exact (Kd.R_reads' HO438.out).2.1); rintro e w59 ⟨rfl, hb⟩; refine ⟨_, rfl, ?_⟩; have n0_ := Aside0.mk (Kd.R_below (by (with_reducible repeat (first | apply Kd.R_alloc | apply Kd.R_drewN | apply Kd.R_drew)); exact HO409.out) hb); have n1_ := Aside0.mk (Kd.R_below (by (with_reducible repeat (first | apply Kd.R_alloc | apply Kd.R_drewN | apply Kd.R_drew)); exact HO416.out) hb); have n2_ := Aside0.mk (Kd.R_below (by (with_reducible repeat (first | apply Kd.R_alloc | apply Kd.R_drewN | apply Kd.R_drew)); exact HO429.out) hb); have n3_ := Aside0.mk (Kd.R_below (by (with_reducible repeat (first | apply Kd.R_alloc | apply Kd.R_drewN | apply Kd.R_drew)); exact HO438.out) hb); have n4_ := Aside0.mk (below_step (by repeat (first | (with_reducible first | exact HB.out | apply below_alloc | apply pw_below_drewN | apply below_drew1) | exact HB.out)) hb); clear HO409; clear HO416; clear HO429; clear HO438; clear HB; have HO409 := n0_; have HO416 := n1_; have HO429 := n2_; have HO438 := n3_; have HB := n4_; clear n0_ n1_ n2_ n3_ n4_; (try clear hb); (try clear hb2); (try clear hk); (try clear hi)))
                (try simp only [Act.put, List.setIfInBounds_toArray, List.set_cons_zero, List.set_cons_succ])
                go_cut [12] (fun v12 wc => ∃ (kq : Nat) (x12_31 : Bool), v12 = .bool x12_31 ∧ Aside0 (redlinelaw06_MinimalSteps.j1 kq x12_31 = some r) ∧ Aside0 (kq ≤ kj8) ∧ Aside0 (Below w.heap.size w wc))
                case first =>
                 have H := HC32.out
                 clear HC32
                 by_cases c60 : t399 = 0
                 ·rw [if_pos c60] at H
                  have c60b0 : (t399 == 0) = true := beq_iff_eq.mpr c60
                  have c60b1 : (t399 != 0) = false := bne_eq_false_iff_eq.mpr c60
                  clear c60
                  (first | rw [c60b0] | rw [c60b1] | (simp only [i64_w, i32_w]; rw [c60b0]) | skip)
                  by_cases c61 : t418 = 0
                  ·rw [if_pos c61] at H
                   have c61b0 : (t418 == 0) = true := beq_iff_eq.mpr c61
                   have c61b1 : (t418 != 0) = false := bne_eq_false_iff_eq.mpr c61
                   clear c61
                   by_cases c62 : t420 = 0
                   ·rw [if_pos c62] at H
                    have c62b0 : (t420 == 0) = true := beq_iff_eq.mpr c62
                    have c62b1 : (t420 != 0) = false := bne_eq_false_iff_eq.mpr c62
                    clear c62
                    by_cases c63 : t440 = 0
                    ·rw [if_pos c63] at H
                     have c63b0 : (t440 == 0) = true := beq_iff_eq.mpr c63
                     have c63b1 : (t440 != 0) = false := bne_eq_false_iff_eq.mpr c63
                     clear c63
                     by_cases c64 : t417 = t398
                     ·rw [if_pos c64] at H
                      have c64b0 : (t417 == t398) = true := beq_iff_eq.mpr c64
                      have c64b1 : (t417 != t398) = false := bne_eq_false_iff_eq.mpr c64
                      clear c64
                      have H' := Aside0.mk H
                      clear H
                      go_wp2
                      go_meet
                      case rel => exact ⟨_, (decide (t439 ≥ (wrap64 (t398 + t419)))), (by first | rfl | (simp; done) | (simp [*]; done)), H', ⟨by have := HJ8.out; first | omega | exact Nat.le_refl _⟩, ⟨by repeat (first | (with_reducible first | exact HB.out | apply below_alloc | apply pw_below_drewN | apply below_drew1) | exact HB.out)⟩⟩
                     ·rw [if_neg c64] at H
                      have c64b0 : (t417 == t398) = false := beq_eq_false_iff_ne.mpr c64
                      have c64b1 : (t417 != t398) = true := bne_iff_ne.mpr c64
                      by_cases c65 : t417 = (wrap64 (t398 + 1))
                      ·rw [if_pos c65] at H
                       have c65b0 : (t417 == (wrap64 (t398 + 1))) = true := beq_iff_eq.mpr c65
                       have c65b1 : (t417 != (wrap64 (t398 + 1))) = false := bne_eq_false_iff_eq.mpr c65
                       clear c65
                       have H' := Aside0.mk H
                       clear H
                       go_wp2
                       go_meet
                       case rel => exact ⟨_, (decide (t439 ≥ (wrap64 (t398 + t419)))), (by first | rfl | (simp; done) | (simp [*]; done)), H', ⟨by have := HJ8.out; first | omega | exact Nat.le_refl _⟩, ⟨by repeat (first | (with_reducible first | exact HB.out | apply below_alloc | apply pw_below_drewN | apply below_drew1) | exact HB.out)⟩⟩
                      ·rw [if_neg c65] at H
                       have c65b0 : (t417 == (wrap64 (t398 + 1))) = false := beq_eq_false_iff_ne.mpr c65
                       have c65b1 : (t417 != (wrap64 (t398 + 1))) = true := bne_iff_ne.mpr c65
                       have H' := Aside0.mk H
                       clear H
                       go_wp2
                       go_meet
                       case rel => exact ⟨_, (false), (by first | rfl | (simp; done) | (simp [*]; done)), H', ⟨by have := HJ8.out; first | omega | exact Nat.le_refl _⟩, ⟨by repeat (first | (with_reducible first | exact HB.out | apply below_alloc | apply pw_below_drewN | apply below_drew1) | exact HB.out)⟩⟩
                    ·rw [if_neg c63] at H
                     have c63b0 : (t440 == 0) = false := beq_eq_false_iff_ne.mpr c63
                     have c63b1 : (t440 != 0) = true := bne_iff_ne.mpr c63
                     have H' := Aside0.mk H
                     clear H
                     go_wp2
                     go_meet
                     case rel => exact ⟨_, (false), (by first | rfl | (simp; done) | (simp [*]; done)), H', ⟨by have := HJ8.out; first | omega | exact Nat.le_refl _⟩, ⟨by repeat (first | (with_reducible first | exact HB.out | apply below_alloc | apply pw_below_drewN | apply below_drew1) | exact HB.out)⟩⟩
                   ·rw [if_neg c62] at H
                    have c62b0 : (t420 == 0) = false := beq_eq_false_iff_ne.mpr c62
                    have c62b1 : (t420 != 0) = true := bne_iff_ne.mpr c62
                    have H' := Aside0.mk H
                    clear H
                    go_wp2
                    go_meet
                    case rel => exact ⟨_, (false), (by first | rfl | (simp; done) | (simp [*]; done)), H', ⟨by have := HJ8.out; first | omega | exact Nat.le_refl _⟩, ⟨by repeat (first | (with_reducible first | exact HB.out | apply below_alloc | apply pw_below_drewN | apply below_drew1) | exact HB.out)⟩⟩
                  ·rw [if_neg c61] at H
                   have c61b0 : (t418 == 0) = false := beq_eq_false_iff_ne.mpr c61
                   have c61b1 : (t418 != 0) = true := bne_iff_ne.mpr c61
                   have H' := Aside0.mk H
                   clear H
                   go_wp2
                   go_meet
                   case rel => exact ⟨_, (false), (by first | rfl | (simp; done) | (simp [*]; done)), H', ⟨by have := HJ8.out; first | omega | exact Nat.le_refl _⟩, ⟨by repeat (first | (with_reducible first | exact HB.out | apply below_alloc | apply pw_below_drewN | apply below_drew1) | exact HB.out)⟩⟩
                 ·rw [if_neg c60] at H
                  have c60b0 : (t399 == 0) = false := beq_eq_false_iff_ne.mpr c60
                  have c60b1 : (t399 != 0) = true := bne_iff_ne.mpr c60
                  (first | rw [c60b0] | rw [c60b1] | (simp only [i64_w, i32_w]; rw [c60b0]) | skip)
                  have H' := Aside0.mk H
                  clear H
                  go_wp2
                  go_meet
                  case rel => exact ⟨_, (false), (by first | rfl | (simp; done) | (simp [*]; done)), H', ⟨by have := HJ8.out; first | omega | exact Nat.le_refl _⟩, ⟨by repeat (first | (with_reducible first | exact HB.out | apply below_alloc | apply pw_below_drewN | apply below_drew1) | exact HB.out)⟩⟩
                case rest =>
                 clear HC32
                 try clear c1
                 try clear c2
                 try clear p2
                 try clear c3
                 try clear c4
                 try clear c5
                 try clear c6
                 try clear p6
                 try clear c20
                 try clear c21
                 try clear c22
                 try clear c22b0
                 try clear c23
                 try clear c23b0
                 try clear c24
                 try clear c27
                 try clear c28
                 try clear c29
                 try clear c30
                 try clear c60
                 try clear c60b0
                 try clear c60b1
                 try clear c61
                 try clear c61b0
                 try clear c61b1
                 try clear c62
                 try clear c62b0
                 try clear c62b1
                 try clear c63
                 try clear c63b0
                 try clear c63b1
                 try clear c64
                 try clear c64b0
                 try clear c64b1
                 try clear p64
                 try clear c65
                 try clear c65b0
                 try clear c65b1
                 obtain ⟨kq, x12_31, rfl, HA, HJ31, HB⟩ := hcut
                 cases kq with
                 | zero => exact absurd HA.out (by simp [redlinelaw06_MinimalSteps.j1])
                 | succ kj31 =>
                  have H := HA.out
                  clear HA
                  simp only [redlinelaw06_MinimalSteps.j1] at H
                  obtain rfl := Option.some.inj H
                  go_wp2
                  go_ret
                  exact ⟨by first | rfl | (simp [errW_none, errW_some] <;> rfl) | (simp only [← hji17]; first | rfl | (simp [errW_none, errW_some] <;> rfl)) | (simp [*, errW_none, errW_some] <;> rfl), by repeat (first | (with_reducible first | exact HB.out | apply below_alloc | apply pw_below_drewN | apply below_drew1) | exact HB.out)⟩
               ·rw [if_neg c30] at H
                exact absurd H (by simp)
              ·rw [if_neg c29] at H
               exact absurd H (by simp)
             ·rw [if_neg c28] at H
              exact absurd H (by simp)
            ·rw [if_neg c27] at H
             exact absurd H (by simp)
           ·rw [if_neg c24] at H
            exact absurd H (by simp)
          ·rw [if_neg c21] at H
           exact absurd H (by simp)
         ·rw [if_neg c20] at H
          exact absurd H (by simp)
        ·rw [if_neg c19] at H
         exact absurd H (by simp)
       ·rw [if_neg c18] at H
        exact absurd H (by simp)
  ·replace c8 := Bool.eq_false_iff.mpr c8
   subst c8
   have H1 : (some false) = some r := by rw [if_neg (show ¬ (false = true) by decide)] at H; exact H
   clear H
   have H := H1
   clear H1
   obtain rfl := Option.some.inj H
   go_enter Try.func8, Try.ntmps8
   go_wp2_with (first | ((with_reducible refine gate_callee (f := 26) rfl ?_); refine goesL_ (some 22) rfl rfl Try.func26 (by kernel_rfl) rfl #[] rfl (by (try simp only [List.map_toArray, List.map_cons, List.map_nil]); first | done | rfl | (simp only [List.length_drop, List.length_take]; rfl)) ?_; (with_reducible refine (redlinelaw06_works.calls k  false _ A7.out).mono ?_); rintro e w66 ⟨rfl, hb⟩; refine ⟨_, rfl, ?_⟩; have n0_ := Aside0.mk (below_step (by repeat (first | (with_reducible first | exact HB.out | apply below_alloc | apply pw_below_drewN | apply below_drew1) | exact HB.out)) hb); clear HB; have HB := n0_; clear n0_; (try clear hb); (try clear hb2); (try clear hk); (try clear hi)))
   go_ret
   exact ⟨by first | rfl | (simp [errW_none, errW_some] <;> rfl) | (simp [*, errW_none, errW_some] <;> rfl), by repeat (first | (with_reducible first | exact HB.out | apply below_alloc | apply pw_below_drewN | apply below_drew1) | exact HB.out)⟩

/-- THE ONE PURE STATEMENT of redlinelaw06_MinimalSteps: yours. -/
def redlinelaw06_MinimalSteps.Pure : Prop := ∀ (l0 : List Int) (l1 : List Int) (a2 : Int) (a3 : Int) (l4 : List Int) (l5 : List Int), l0.length ≤ maxLen → l0.length * 8 ≤ 140737488351232 → (∀ x ∈ l0, (Lit.int .i64 x).wf = true) → l1.length ≤ maxLen → l1.length * 8 ≤ 140737488351232 → (∀ x ∈ l1, (Lit.int .i64 x).wf = true) → (Lit.int .i64 a2).wf = true → (Lit.int .i64 a3).wf = true → l4.length ≤ maxLen → l4.length * 8 ≤ 140737488351232 → (∀ x ∈ l4, (Lit.int .i64 x).wf = true) → l5.length ≤ maxLen → l5.length * 8 ≤ 140737488351232 → (∀ x ∈ l5, (Lit.int .i64 x).wf = true) → ∃ k, redlinelaw06_MinimalSteps.f k l0 l1 a2 a3 l4 l5 = some true
theorem redlinelaw06_MinimalSteps.walk (P : redlinelaw06_MinimalSteps.Pure) (a0 : Option Addr) (len0 cap0 : Nat) (z0 : List Int) (a1 : Option Addr) (len1 cap1 : Nat) (z1 : List Int) (a2 : Int) (a3 : Int) (a4 : Option Addr) (len4 cap4 : Nat) (z4 : List Int) (a5 : Option Addr) (len5 cap5 : Nat) (z5 : List Int) (w : World) (w0 : (a0 = none ∧ len0 = 0 ∧ cap0 = 0 ∧ z0 = []) ∨ ∃ x, a0 = some x ∧ len0 ≤ cap0 ∧ cap0 ≤ maxLen ∧ z0.length = cap0 ∧ (∀ i, i < z0.length → w.cell? (x.add i) = some (.int .i64 (z0.getD i 0))) ∧ ∀ n ∈ z0, (Lit.int .i64 n).wf = true) (y0 : len0 * 8 ≤ 140737488351232) (w1 : (a1 = none ∧ len1 = 0 ∧ cap1 = 0 ∧ z1 = []) ∨ ∃ x, a1 = some x ∧ len1 ≤ cap1 ∧ cap1 ≤ maxLen ∧ z1.length = cap1 ∧ (∀ i, i < z1.length → w.cell? (x.add i) = some (.int .i64 (z1.getD i 0))) ∧ ∀ n ∈ z1, (Lit.int .i64 n).wf = true) (y1 : len1 * 8 ≤ 140737488351232) (w2 : (Lit.int .i64 a2).wf = true) (w3 : (Lit.int .i64 a3).wf = true) (w4 : (a4 = none ∧ len4 = 0 ∧ cap4 = 0 ∧ z4 = []) ∨ ∃ x, a4 = some x ∧ len4 ≤ cap4 ∧ cap4 ≤ maxLen ∧ z4.length = cap4 ∧ (∀ i, i < z4.length → w.cell? (x.add i) = some (.int .i64 (z4.getD i 0))) ∧ ∀ n ∈ z4, (Lit.int .i64 n).wf = true) (y4 : len4 * 8 ≤ 140737488351232) (w5 : (a5 = none ∧ len5 = 0 ∧ cap5 = 0 ∧ z5 = []) ∨ ∃ x, a5 = some x ∧ len5 ≤ cap5 ∧ cap5 ≤ maxLen ∧ z5.length = cap5 ∧ (∀ i, i < z5.length → w.cell? (x.add i) = some (.int .i64 (z5.getD i 0))) ∧ ∀ n ∈ z5, (Lit.int .i64 n).wf = true) (y5 : len5 * 8 ≤ 140737488351232) :
    Calls Try.prog 8 #[.slice a0 len0 cap0, .slice a1 len1 cap1, .int .i64 a2, .int .i64 a3, .slice a4 len4 cap4, .slice a5 len5 cap5] w fun e w' => e = .returned (.bool true) ∧ Below w.heap.size w w' := by
  obtain ⟨l0, rfl, hr0, hm0, hw0, hc0⟩ := ReadsInt.ofRowC w0
  obtain ⟨l1, rfl, hr1, hm1, hw1, hc1⟩ := ReadsInt.ofRowC w1
  obtain ⟨l4, rfl, hr4, hm4, hw4, hc4⟩ := ReadsInt.ofRowC w4
  obtain ⟨l5, rfl, hr5, hm5, hw5, hc5⟩ := ReadsInt.ofRowC w5
  obtain ⟨k, h⟩ := P l0 l1 a2 a3 l4 l5 hm0 y0 hw0 hm1 y1 hw1 w2 w3 hm4 y4 hw4 hm5 y5 hw5
  refine (redlinelaw06_MinimalSteps.calls k _ _ l0 _ _ l1 a2 a3 _ _ l4 _ _ l5 true w (Kd.C_of_reads (d := (0 : Int)) (h1 := fun _ => rfl) hr0) hc0 (Kd.C_of_reads (d := (0 : Int)) (h1 := fun _ => rfl) hr1) hc1 (Kd.C_of_reads (d := (0 : Int)) (h1 := fun _ => rfl) hr4) hc4 (Kd.C_of_reads (d := (0 : Int)) (h1 := fun _ => rfl) hr5) hc5 h).mono ?_
  rintro e w' ⟨rfl, hd⟩
  exact ⟨rfl, hd⟩

end Go.Proofs.Ytdcldoembdifpaa.X
