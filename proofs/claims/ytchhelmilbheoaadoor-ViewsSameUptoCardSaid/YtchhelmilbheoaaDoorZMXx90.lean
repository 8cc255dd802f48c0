import Derived.Test.YtchhelmilbheoaaDoorZMXx0
import Derived.Test.YtchhelmilbheoaaDoorZMXx17
import Derived.Test.YtchhelmilbheoaaDoorZMXx24
import Derived.Test.YtchhelmilbheoaaDoorZMXx73
import Derived.Test.YtchhelmilbheoaaDoorZMXx87
import Derived.Test.YtchhelmilbheoaaDoorZMXx88
import Derived.Test.YtchhelmilbheoaaDoorZMXx89
namespace Go.Proofs.YtchhelmilbheoaaDoor.X
open Go.RowKit Go.Proofs.YtchhelmilbheoaaDoorW.PrintWords Go.Proofs.YtchhelmilbheoaaDoorW.PrintLast Go.Proofs.YtchhelmilbheoaaDoorW.PrintMore
attribute [local go_sem] max2_int min2_int max_two min_two max_three min_three max_four min_four   -- for this text's walks alone
open Go.Proofs.YtchhelmilbheoaaDoorW.HandWords
set_option linter.unusedVariables false
set_option linter.unusedSimpArgs false
mutual
def redlinelaw17_ViewsSame.j0 : Nat → ByteArray → Int → List ByteArray → Bool → Option (Bool)
  | 0, _, _, _, _ => none
  | k + 1, x0, x1, x5, x28 => if x28 = true then (some true) else ((views_Side.f k ([] : List (S72)) x5 x5 (wrap64 (1 + (wrap64 (Int.tmod (IntKind.u64.wrap (x1)) 200))))).bind fun bt264 => ((views_Ifdef.f k ([] : List (S72)) x5 x5 (⟨#[78, 57]⟩ : ByteArray)).bind fun bt266 => (if bt264.2 = 0 then (if bt266.2 = 0 then ((redlinelaw17_whole.f x0).bind fun t268 => (redlinelaw17_ViewsSame.j1 k (wrap64 (1 + (wrap64 (Int.tmod (IntKind.u64.wrap (x1)) 200)))) x5 bt264.1 bt266.1 (bt266.1.toList != t268.toList))) else (redlinelaw17_ViewsSame.j1 k (wrap64 (1 + (wrap64 (Int.tmod (IntKind.u64.wrap (x1)) 200)))) x5 bt264.1 bt266.1 true)) else (redlinelaw17_ViewsSame.j1 k (wrap64 (1 + (wrap64 (Int.tmod (IntKind.u64.wrap (x1)) 200)))) x5 bt264.1 bt266.1 true))))
def redlinelaw17_ViewsSame.j1 : Nat → Int → List ByteArray → ByteArray → ByteArray → Bool → Option (Bool)
  | 0, _, _, _, _, _ => none
  | k + 1, x1, x5, x6, x8, x58 => if x58 = true then (some false) else ((lines_Split.f x6).bind fun t269 => (if (t269.length : Int) = (x5.length : Int) then (redlinelaw17_ViewsSame.l0 k x1 x5 x8 t269 0) else (some false)))
def redlinelaw17_ViewsSame.l0 : Nat → Int → List ByteArray → ByteArray → List ByteArray → Int → Option (Bool)
  | 0, _, _, _, _, _ => none
  | k + 1, x1, x5, x8, x10, x11 => if x11 < (x10.length : Int) then (if 0 ≤ x11 then (if ((rdOf ByteArray.empty x10 x11).size : Int) > (wrap64 (x1 + 2)) then (if 0 ≤ (wrap64 (x1 + 1)) then (if (wrap64 (x1 + 1)) < ((rdOf ByteArray.empty x10 x11).size : Int) then (if (bt (rdOf ByteArray.empty x10 x11) (wrap64 (x1 + 1))) = 32 then (redlinelaw17_ViewsSame.l0 k x1 x5 x8 x10 (wrap64 (x11 + 1))) else (some false)) else (none)) else (none)) else (redlinelaw17_ViewsSame.l0 k x1 x5 x8 x10 (wrap64 (x11 + 1)))) else (none)) else (redlinelaw17_ViewsSame.l1 k x5 x8 0)
def redlinelaw17_ViewsSame.l1 : Nat → List ByteArray → ByteArray → Int → Option (Bool)
  | 0, _, _, _ => none
  | k + 1, x5, x8, x12 => if x12 < (x5.length : Int) then (if 0 ≤ x12 then (if ((rdOf ByteArray.empty x5 x12).size : Int) > 3 then (if 0 < ((rdOf ByteArray.empty x5 x12).size : Int) then (if (bt (rdOf ByteArray.empty x5 x12) 0) = 35 then (some true) else (redlinelaw17_ViewsSame.l1 k x5 x8 (wrap64 (x12 + 1)))) else (none)) else (redlinelaw17_ViewsSame.l1 k x5 x8 (wrap64 (x12 + 1)))) else (none)) else ((views_ResolveN.f x8 (⟨#[78, 57]⟩ : ByteArray) true).bind fun bt276 => ((views_ResolveN.f x8 (⟨#[78, 57]⟩ : ByteArray) false).bind fun bt278 => (if bt276.2.isNone = true then (if bt278.2.isNone = true then (if bt276.1.toList = x8.toList then (some (bt278.1.toList == x8.toList)) else (some false)) else (some false)) else (some false))))
end
def redlinelaw17_ViewsSame.f (k : Nat) (a0 : ByteArray) (a1 : Int) : Option (Bool) := (redlinelaw17_works.f k).bind fun t260 => (if t260 = true then ((lines_Split.f a0).bind fun t261 => (if (t261.length : Int) > 200 then (redlinelaw17_ViewsSame.j0 k a0 a1 t261 true) else (redlinelaw17_ViewsSame.j0 k a0 a1 t261 (decide ((a0.size : Int) > 20000))))) else (some false))
set_option maxHeartbeats 8000000 in
set_option maxRecDepth 100000 in
theorem redlinelaw17_ViewsSame.calls (k : Nat) (a0 : ByteArray) (a1 : Int) (r : Bool) (w : World) (h : redlinelaw17_ViewsSame.f k a0 a1 = some r) :
    Calls Tryd.prog 6 #[.string a0, .int .i64 a1] w fun e w' => e = .returned (.bool r) ∧ Below w.heap.size w w' := by
  have hu23 := Tryd.underlying23
  have HB := Aside0.mk (Below.refl w.heap.size w)
  have H : ((redlinelaw17_works.f k).bind fun t260 => (if t260 = true then ((lines_Split.f a0).bind fun t261 => (if (t261.length : Int) > 200 then (redlinelaw17_ViewsSame.j0 k a0 a1 t261 true) else (redlinelaw17_ViewsSame.j0 k a0 a1 t261 (decide ((a0.size : Int) > 20000))))) else (some false))) = some r := h
  clear h
  replace H := Option.bind_eq_some_iff.mp H
  obtain ⟨t260, A30, H⟩ := H
  replace H : (if t260 = true then ((lines_Split.f a0).bind fun t261 => (if (t261.length : Int) > 200 then (redlinelaw17_ViewsSame.j0 k a0 a1 t261 true) else (redlinelaw17_ViewsSame.j0 k a0 a1 t261 (decide ((a0.size : Int) > 20000))))) else (some false)) = some r := H
  have A3 := Aside0.mk A30
  clear A30
  by_cases c4 : t260 = true
  ·subst c4
   have H1 : ((lines_Split.f a0).bind fun t261 => (if (t261.length : Int) > 200 then (redlinelaw17_ViewsSame.j0 k a0 a1 t261 true) else (redlinelaw17_ViewsSame.j0 k a0 a1 t261 (decide ((a0.size : Int) > 20000))))) = some r := by rw [if_pos rfl] at H; exact H
   clear H
   have H := H1
   clear H1
   replace H := Option.bind_eq_some_iff.mp H
   obtain ⟨t261, A50, H⟩ := H
   replace H : (if (t261.length : Int) > 200 then (redlinelaw17_ViewsSame.j0 k a0 a1 t261 true) else (redlinelaw17_ViewsSame.j0 k a0 a1 t261 (decide ((a0.size : Int) > 20000)))) = some r := H
   have A5 := Aside0.mk A50
   clear A50
   have HC6 := Aside0.mk H
   clear H
   go_enter Tryd.func6, Tryd.ntmps6
   go_upto_region 4 with (first | ((with_reducible refine gate_callee (f := 14) rfl ?_); refine goesL_ (some 17) rfl rfl Tryd.func14 (by kernel_rfl) rfl #[] rfl (by (try simp only [List.map_toArray, List.map_cons, List.map_nil]); first | done | rfl | (simp only [List.length_drop, List.length_take]; rfl)) ?_; (with_reducible refine (redlinelaw17_works.calls k  true _ A3.out).mono ?_); rintro e w7 ⟨rfl, hb⟩; refine ⟨_, rfl, ?_⟩; have n0_ := Aside0.mk (below_step (by repeat (first | (with_reducible first | exact HB.out | apply below_alloc | apply pw_below_drewN | apply below_drew1) | exact HB.out)) hb); clear HB; have HB := n0_; clear n0_; (try clear hb); (try clear hb2); (try clear hk); (try clear hi)) | ((with_reducible refine gate_callee (f := 15) rfl ?_); refine goesL_ (some 20) rfl rfl Tryd.func15 (by kernel_rfl) rfl #[.string a0] rfl (by (try simp only [List.map_toArray, List.map_cons, List.map_nil]); first | done | rfl | (simp only [List.length_drop, List.length_take]; rfl)) ?_; (with_reducible refine (lines_Split.calls a0 t261 _ A5.out).mono ?_); rintro e w8 ⟨v262, rfl, ho0, hb⟩; refine ⟨_, rfl, ?_⟩; have n0_ := Aside0.mk (Kd.R_lower ho0 (below_size (by repeat (first | (with_reducible first | exact HB.out | apply below_alloc | apply pw_below_drewN | apply below_drew1) | exact HB.out)))); have n1_ := Aside0.mk (below_step (by repeat (first | (with_reducible first | exact HB.out | apply below_alloc | apply pw_below_drewN | apply below_drew1) | exact HB.out)) hb); clear HB; have HO263 := n0_; have HB := n1_; clear n0_ n1_; (try clear hb); (try clear hb2); (try clear hk); (try clear hi); (try clear ho0)))
   (try simp only [Act.put, List.setIfInBounds_toArray, List.set_cons_zero, List.set_cons_succ])
   go_cut [28] (fun v28 wc => ∃ (kq : Nat) (x28_5 : Bool), v28 = .bool x28_5 ∧ Aside0 (redlinelaw17_ViewsSame.j0 kq a0 a1 t261 x28_5 = some r) ∧ Aside0 (kq ≤ k) ∧ Aside0 (Kd.R Kd.string 9 wc w.heap.size (fun _ => True) v262 t261) ∧ Aside0 (Below w.heap.size w wc))
   case first =>
    have H := HC6.out
    clear HC6
    by_cases c9 : (t261.length : Int) > 200
    ·rw [if_pos c9] at H
     have c9b0 : decide (200 < (t261.length : Int)) = true := decide_eq_true c9
     have c9b1 : decide (200 < t261.length) = true := decide_eq_true (by omega)
     clear c9
     (first | rw [c9b0] | rw [c9b1] | (simp only [i64_w, i32_w]; rw [c9b0]) | skip)
     have H' := Aside0.mk H
     clear H
     obtain ⟨Ao10, co10, eo10⟩ := Kd.R_slice HO263.out
     subst eo10
     go_wp2
     go_meet
     case rel => exact ⟨_, (true), (by first | rfl | (simp; done) | (simp [*]; done)), H', ⟨by first | omega | exact Nat.le_refl _⟩, ⟨by (with_reducible repeat (first | apply Kd.R_alloc | apply Kd.R_drewN | apply Kd.R_drew)); exact HO263.out⟩, ⟨by repeat (first | (with_reducible first | exact HB.out | apply below_alloc | apply pw_below_drewN | apply below_drew1) | exact HB.out)⟩⟩
    ·rw [if_neg c9] at H
     have c9b0 : decide (200 < (t261.length : Int)) = false := decide_eq_false c9
     have c9b1 : decide (200 < t261.length) = false := decide_eq_false (by omega)
     clear c9
     (first | rw [c9b0] | rw [c9b1] | (simp only [i64_w, i32_w]; rw [c9b0]) | skip)
     have H' := Aside0.mk H
     clear H
     obtain ⟨Ao11, co11, eo11⟩ := Kd.R_slice HO263.out
     subst eo11
     go_wp2
     go_meet
     case rel => exact ⟨_, (decide ((a0.size : Int) > 20000)), (by first | rfl | (simp; done) | (simp [*]; done)), H', ⟨by first | omega | exact Nat.le_refl _⟩, ⟨by (with_reducible repeat (first | apply Kd.R_alloc | apply Kd.R_drewN | apply Kd.R_drew)); exact HO263.out⟩, ⟨by repeat (first | (with_reducible first | exact HB.out | apply below_alloc | apply pw_below_drewN | apply below_drew1) | exact HB.out)⟩⟩
   case rest =>
    clear HC6
    try clear c1
    try clear p2
    try clear c4
    try clear c6
    try clear c9
    try clear c9b0
    try clear c9b1
    obtain ⟨kq, x28_5, rfl, HA, HJ5, HO_5, HB⟩ := hcut
    cases kq with
    | zero => exact absurd HA.out (by simp [redlinelaw17_ViewsSame.j0])
    | succ kj5 =>
     have H := HA.out
     clear HA
     simp only [redlinelaw17_ViewsSame.j0] at H
     by_cases c12 : x28_5 = true
     ·subst c12
      have H1 : (some true) = some r := by rw [if_pos rfl] at H; exact H
      clear H
      have H := H1
      clear H1
      obtain rfl := Option.some.inj H
      go_wp2
      go_ret
      exact ⟨by first | rfl | (simp [errW_none, errW_some] <;> rfl) | (simp [*, errW_none, errW_some] <;> rfl), by repeat (first | (with_reducible first | exact HB.out | apply below_alloc | apply pw_below_drewN | apply below_drew1) | exact HB.out)⟩
     ·replace c12 := Bool.eq_false_iff.mpr c12
      subst c12
      have H1 : ((views_Side.f kj5 ([] : List (S72)) t261 t261 (wrap64 (1 + (wrap64 (Int.tmod (IntKind.u64.wrap (a1)) 200))))).bind fun bt264 => ((views_Ifdef.f kj5 ([] : List (S72)) t261 t261 (⟨#[78, 57]⟩ : ByteArray)).bind fun bt266 => (if bt264.2 = 0 then (if bt266.2 = 0 then ((redlinelaw17_whole.f a0).bind fun t268 => (redlinelaw17_ViewsSame.j1 kj5 (wrap64 (1 + (wrap64 (Int.tmod (IntKind.u64.wrap (a1)) 200)))) t261 bt264.1 bt266.1 (bt266.1.toList != t268.toList))) else (redlinelaw17_ViewsSame.j1 kj5 (wrap64 (1 + (wrap64 (Int.tmod (IntKind.u64.wrap (a1)) 200)))) t261 bt264.1 bt266.1 true)) else (redlinelaw17_ViewsSame.j1 kj5 (wrap64 (1 + (wrap64 (Int.tmod (IntKind.u64.wrap (a1)) 200)))) t261 bt264.1 bt266.1 true)))) = some r := by rw [if_neg (show ¬ (false = true) by decide)] at H; exact H
      clear H
      have H := H1
      clear H1
      replace H := Option.bind_eq_some_iff.mp H
      obtain ⟨⟨t264, t265⟩, A130, H⟩ := H
      replace H : ((views_Ifdef.f kj5 ([] : List (S72)) t261 t261 (⟨#[78, 57]⟩ : ByteArray)).bind fun bt266 => (if t265 = 0 then (if bt266.2 = 0 then ((redlinelaw17_whole.f a0).bind fun t268 => (redlinelaw17_ViewsSame.j1 kj5 (wrap64 (1 + (wrap64 (Int.tmod (IntKind.u64.wrap (a1)) 200)))) t261 t264 bt266.1 (bt266.1.toList != t268.toList))) else (redlinelaw17_ViewsSame.j1 kj5 (wrap64 (1 + (wrap64 (Int.tmod (IntKind.u64.wrap (a1)) 200)))) t261 t264 bt266.1 true)) else (redlinelaw17_ViewsSame.j1 kj5 (wrap64 (1 + (wrap64 (Int.tmod (IntKind.u64.wrap (a1)) 200)))) t261 t264 bt266.1 true))) = some r := H
      have A13 := Aside0.mk A130
      clear A130
      replace H := Option.bind_eq_some_iff.mp H
      obtain ⟨⟨t266, t267⟩, A140, H⟩ := H
      replace H : (if t265 = 0 then (if t267 = 0 then ((redlinelaw17_whole.f a0).bind fun t268 => (redlinelaw17_ViewsSame.j1 kj5 (wrap64 (1 + (wrap64 (Int.tmod (IntKind.u64.wrap (a1)) 200)))) t261 t264 t266 (t266.toList != t268.toList))) else (redlinelaw17_ViewsSame.j1 kj5 (wrap64 (1 + (wrap64 (Int.tmod (IntKind.u64.wrap (a1)) 200)))) t261 t264 t266 true)) else (redlinelaw17_ViewsSame.j1 kj5 (wrap64 (1 + (wrap64 (Int.tmod (IntKind.u64.wrap (a1)) 200)))) t261 t264 t266 true)) = some r := H
      have A14 := Aside0.mk A140
      clear A140
      have HC15 := Aside0.mk H
      clear H
      obtain ⟨Ao16, co16, eo16⟩ := Kd.R_slice HO_5.out
      subst eo16
      go_upto_region 9 with (first | ((with_reducible refine gate_callee (f := 10) rfl ?_); refine goesL_ (some 38) rfl rfl Tryd.func10 (by kernel_rfl) rfl #[.slice none 0 0, .slice Ao16 t261.length co16, .slice Ao16 t261.length co16, .int .i64 (wrap64 (1 + (wrap64 (Int.tmod (IntKind.u64.wrap (a1)) 200))))] rfl (by (try simp only [List.map_toArray, List.map_cons, List.map_nil]); first | done | rfl | (simp only [List.length_drop, List.length_take]; rfl)) ?_; (refine (views_Side.calls kj5 _ _ ([] : List (S72)) _ _ t261 _ _ t261 (wrap64 (1 + (wrap64 (Int.tmod (IntKind.u64.wrap (a1)) 200)))) t264 t265 _ ?side1 ?side2 ?side3 ?side4 ?side5 ?side6 A13.out).mono ?_); (case side1 => exact Kd.C_nil _ _); (case side2 => exact Nat.le_refl _); (case side3 => repeat (first | exact (Kd.R_reads' HO_5.out).2.2 | (with_reducible refine Kd.C_alloc ?_ _) | (with_reducible refine Kd.C_drewN ?_ _) | (with_reducible refine Kd.C_drew ?_))); (case side4 => exact (Kd.R_reads' HO_5.out).2.1); (case side5 => repeat (first | exact (Kd.R_reads' HO_5.out).2.2 | (with_reducible refine Kd.C_alloc ?_ _) | (with_reducible refine Kd.C_drewN ?_ _) | (with_reducible refine Kd.C_drew ?_))); (case side6 => exact (Kd.R_reads' HO_5.out).2.1); rintro e w17 ⟨rfl, hb⟩; refine ⟨_, rfl, ?_⟩; have n0_ := Aside0.mk (Kd.R_below (by (with_reducible repeat (first | apply Kd.R_alloc | apply Kd.R_drewN | apply Kd.R_drew)); exact HO_5.out) hb); have n1_ := Aside0.mk (below_step (by repeat (first | (with_reducible first | exact HB.out | apply below_alloc | apply pw_below_drewN | apply below_drew1) | exact HB.out)) hb); clear HO_5; clear HB; have HO_5 := n0_; have HB := n1_; clear n0_ n1_; (try clear hb); (try clear hb2); (try clear hk); (try clear hi)) | ((with_reducible refine gate_callee (f := 16) rfl ?_); refine goesL_ (some 44) rfl rfl Tryd.func16 (by kernel_rfl) rfl #[.slice none 0 0, .slice Ao16 t261.length co16, .slice Ao16 t261.length co16, .string (⟨#[78, 57]⟩ : ByteArray)] rfl (by (try simp only [List.map_toArray, List.map_cons, List.map_nil]); first | done | rfl | (simp only [List.length_drop, List.length_take]; rfl)) ?_; (refine (views_Ifdef.calls kj5 _ _ ([] : List (S72)) _ _ t261 _ _ t261 (⟨#[78, 57]⟩ : ByteArray) t266 t267 _ ?side1 ?side2 ?side3 ?side4 ?side5 ?side6 A14.out).mono ?_); (case side1 => exact Kd.C_nil _ _); (case side2 => exact Nat.le_refl _); (case side3 => repeat (first | exact (Kd.R_reads' HO_5.out).2.2 | (with_reducible refine Kd.C_alloc ?_ _) | (with_reducible refine Kd.C_drewN ?_ _) | (with_reducible refine Kd.C_drew ?_))); (case side4 => exact (Kd.R_reads' HO_5.out).2.1); (case side5 => repeat (first | exact (Kd.R_reads' HO_5.out).2.2 | (with_reducible refine Kd.C_alloc ?_ _) | (with_reducible refine Kd.C_drewN ?_ _) | (with_reducible refine Kd.C_drew ?_))); (case side6 => exact (Kd.R_reads' HO_5.out).2.1); rintro e w18 ⟨rfl, hb⟩; refine ⟨_, rfl, ?_⟩; have n0_ := Aside0.mk (Kd.R_below (by (with_reducible repeat (first | apply Kd.R_alloc | apply Kd.R_drewN | apply Kd.R_drew)); exact HO_5.out) hb); have n1_ := Aside0.mk (below_step (by repeat (first | (with_reducible first | exact HB.out | apply below_alloc | apply pw_below_drewN | apply below_drew1) | exact HB.out)) hb); clear HO_5; clear HB; have HO_5 := n0_; have HB := n1_; clear n0_ n1_; (try clear hb); (try clear hb2); (try clear hk); (try clear hi)))
      (try simp only [Act.put, List.setIfInBounds_toArray, List.set_cons_zero, List.set_cons_succ])
      go_cut [58] (fun v58 wc => ∃ (kq : Nat) (x58_14 : Bool), v58 = .bool x58_14 ∧ Aside0 (redlinelaw17_ViewsSame.j1 kq (wrap64 (1 + (wrap64 (Int.tmod (IntKind.u64.wrap (a1)) 200)))) t261 t264 t266 x58_14 = some r) ∧ Aside0 (kq ≤ kj5) ∧ Aside0 (Kd.R Kd.string 9 wc w.heap.size (fun _ => True) (.slice Ao16 t261.length co16) t261) ∧ Aside0 (Below w.heap.size w wc))
      case first =>
       have H := HC15.out
       clear HC15
       by_cases c19 : t265 = 0
       ·rw [if_pos c19] at H
        have c19b0 : (t265 == 0) = true := beq_iff_eq.mpr c19
        have c19b1 : (t265 != 0) = false := bne_eq_false_iff_eq.mpr c19
        clear c19
        (first | rw [c19b0] | rw [c19b1] | (simp only [i64_w, i32_w]; rw [c19b0]) | skip)
        by_cases c20 : t267 = 0
        ·rw [if_pos c20] at H
         have c20b0 : (t267 == 0) = true := beq_iff_eq.mpr c20
         have c20b1 : (t267 != 0) = false := bne_eq_false_iff_eq.mpr c20
         clear c20
         replace H := Option.bind_eq_some_iff.mp H
         obtain ⟨t268, A210, H⟩ := H
         replace H : (redlinelaw17_ViewsSame.j1 kj5 (wrap64 (1 + (wrap64 (Int.tmod (IntKind.u64.wrap (a1)) 200)))) t261 t264 t266 (t266.toList != t268.toList)) = some r := H
         have A21 := Aside0.mk A210
         clear A210
         have H' := Aside0.mk H
         clear H
         go_wp2_with (first | (go_at_call 17; (with_reducible refine (redlinelaw17_whole.calls a0 t268 _ A21.out).mono ?_); rintro e w' ⟨rfl, ⟨nd, rfl⟩⟩))
         go_meet
         case rel => exact ⟨_, ((t266.toList != t268.toList)), (by first | rfl | (simp; done) | (simp [*]; done)), H', ⟨by have := HJ5.out; first | omega | exact Nat.le_refl _⟩, ⟨by (with_reducible repeat (first | apply Kd.R_alloc | apply Kd.R_drewN | apply Kd.R_drew)); exact HO_5.out⟩, ⟨by repeat (first | (with_reducible first | exact HB.out | apply below_alloc | apply pw_below_drewN | apply below_drew1) | exact HB.out)⟩⟩
        ·rw [if_neg c20] at H
         have c20b0 : (t267 == 0) = false := beq_eq_false_iff_ne.mpr c20
         have c20b1 : (t267 != 0) = true := bne_iff_ne.mpr c20
         have H' := Aside0.mk H
         clear H
         go_wp2
         go_meet
         case rel => exact ⟨_, (true), (by first | rfl | (simp; done) | (simp [*]; done)), H', ⟨by have := HJ5.out; first | omega | exact Nat.le_refl _⟩, ⟨by (with_reducible repeat (first | apply Kd.R_alloc | apply Kd.R_drewN | apply Kd.R_drew)); exact HO_5.out⟩, ⟨by repeat (first | (with_reducible first | exact HB.out | apply below_alloc | apply pw_below_drewN | apply below_drew1) | exact HB.out)⟩⟩
       ·rw [if_neg c19] at H
        have c19b0 : (t265 == 0) = false := beq_eq_false_iff_ne.mpr c19
        have c19b1 : (t265 != 0) = true := bne_iff_ne.mpr c19
        (first | rw [c19b0] | rw [c19b1] | (simp only [i64_w, i32_w]; rw [c19b0]) | skip)
        have H' := Aside0.mk H
        clear H
        go_wp2
        go_meet
        case rel => exact ⟨_, (true), (by first | rfl | (simp; done) | (simp [*]; done)), H', ⟨by have := HJ5.out; first | omega | exact Nat.le_refl _⟩, ⟨by (with_reducible repeat (first | apply Kd.R_alloc | apply Kd.R_drewN | apply Kd.R_drew)); exact HO_5.out⟩, ⟨by repeat (first | (with_reducible first | exact HB.out | apply below_alloc | apply pw_below_drewN | apply below_drew1) | exact HB.out)⟩⟩
      case rest =>
       clear HC15
       try clear c1
       try clear c2
       try clear p2
       try clear c4
       try clear c6
       try clear p6
       try clear c9
       try clear c9b0
       try clear c9b1
       try clear c10
       try clear c12
       try clear c14
       try clear c15
       try clear c16
       try clear c19
       try clear c19b0
       try clear c19b1
       try clear c20
       try clear c20b0
       try clear c20b1
       try clear p2
       obtain ⟨kq, x58_14, rfl, HA, HJ14, HO_5, HB⟩ := hcut
       cases kq with
       | zero => exact absurd HA.out (by simp [redlinelaw17_ViewsSame.j1])
       | succ kj14 =>
        have H := HA.out
        clear HA
        simp only [redlinelaw17_ViewsSame.j1] at H
        by_cases c22 : x58_14 = true
        ·subst c22
         have H1 : (some false) = some r := by rw [if_pos rfl] at H; exact H
         clear H
         have H := H1
         clear H1
         obtain rfl := Option.some.inj H
         go_wp2
         go_ret
         exact ⟨by first | rfl | (simp [errW_none, errW_some] <;> rfl) | (simp [*, errW_none, errW_some] <;> rfl), by repeat (first | (with_reducible first | exact HB.out | apply below_alloc | apply pw_below_drewN | apply below_drew1) | exact HB.out)⟩
        ·replace c22 := Bool.eq_false_iff.mpr c22
         subst c22
         have H1 : ((lines_Split.f t264).bind fun t269 => (if (t269.length : Int) = (t261.length : Int) then (redlinelaw17_ViewsSame.l0 kj14 (wrap64 (1 + (wrap64 (Int.tmod (IntKind.u64.wrap (a1)) 200)))) t261 t266 t269 0) else (some false))) = some r := by rw [if_neg (show ¬ (false = true) by decide)] at H; exact H
         clear H
         have H := H1
         clear H1
         replace H := Option.bind_eq_some_iff.mp H
         obtain ⟨t269, A230, H⟩ := H
         replace H : (if (t269.length : Int) = (t261.length : Int) then (redlinelaw17_ViewsSame.l0 kj14 (wrap64 (1 + (wrap64 (Int.tmod (IntKind.u64.wrap (a1)) 200)))) t261 t266 t269 0) else (some false)) = some r := H
         have A23 := Aside0.mk A230
         clear A230
         by_cases c24 : (t269.length : Int) = (t261.length : Int)
         ·rw [if_pos c24] at H
          have c24b0 : ((t269.length : Int) == (t261.length : Int)) = true := beq_iff_eq.mpr c24
          have c24b1 : ((t269.length : Int) != (t261.length : Int)) = false := bne_eq_false_iff_eq.mpr c24
          have c24b2 : (t269.length == t261.length) = true := by first | simpa using c24 | (simp at c24 ⊢; omega)
          clear c24
          have H' := Aside0.mk H
          clear H
          go_wp2_with (first | ((with_reducible refine gate_callee (f := 15) rfl ?_); refine goesL_ (some 60) rfl rfl Tryd.func15 (by kernel_rfl) rfl #[.string t264] rfl (by (try simp only [List.map_toArray, List.map_cons, List.map_nil]); first | done | rfl | (simp only [List.length_drop, List.length_take]; rfl)) ?_; (with_reducible refine (lines_Split.calls t264 t269 _ A23.out).mono ?_); rintro e w25 ⟨v270, rfl, ho0, hb⟩; refine ⟨_, rfl, ?_⟩; have n0_ := Aside0.mk (Kd.R_elder' (by (with_reducible repeat (first | apply Kd.R_alloc | apply Kd.R_drewN | apply Kd.R_drew)); exact HO_5.out) (Kd.R_base ho0) hb); have n1_ := Aside0.mk (Kd.R_lower (Kd.R_new' ho0 (Kd.R_lt (by (with_reducible repeat (first | apply Kd.R_alloc | apply Kd.R_drewN | apply Kd.R_drew)); exact HO_5.out))) (below_size (by repeat (first | (with_reducible first | exact HB.out | apply below_alloc | apply pw_below_drewN | apply below_drew1) | exact HB.out)))); have n2_ := Aside0.mk (below_step (by repeat (first | (with_reducible first | exact HB.out | apply below_alloc | apply pw_below_drewN | apply below_drew1) | exact HB.out)) hb); clear HO_5; clear HB; have HO_5 := n0_; have HO271 := n1_; have HB := n2_; clear n0_ n1_ n2_; (try clear hb); (try clear hb2); (try clear hk); (try clear hi); (try clear ho0); obtain ⟨Ao26, co26, eo26⟩ := Kd.R_slice HO271.out; subst eo26))
          go_loopg [11] kj14 (fun kq v11 w' => ∃ (x11_3 : Int), v11 = .int .i64 x11_3 ∧ Aside0 (redlinelaw17_ViewsSame.l0 kq (wrap64 (1 + (wrap64 (Int.tmod (IntKind.u64.wrap (a1)) 200)))) t261 t266 t269 x11_3 = some r) ∧ Aside0 (kq ≤ kj14) ∧ Aside0 (Kd.R Kd.string 9 w' w.heap.size (fun k_ => some k_ ≠ ((.slice Ao26 t269.length co26) : Value).ownBlock) (.slice Ao16 t261.length co16) t261) ∧ Aside0 (Kd.R Kd.string 9 w' w.heap.size (fun k_ => some k_ ≠ ((.slice Ao16 t261.length co16) : Value).ownBlock) (.slice Ao26 t269.length co26) t269) ∧ Aside0 (Below w.heap.size w w'))
          case atStart => exact ⟨(0), (by first | rfl | (simp; done) | (simp [*]; done)), H', ⟨Nat.le_refl _⟩, ⟨by (with_reducible repeat (first | apply Kd.R_alloc | apply Kd.R_drewN | apply Kd.R_drew)); exact Kd.R_mono HO_5.out (fun _ hk => hk.2)⟩, ⟨by (with_reducible repeat (first | apply Kd.R_alloc | apply Kd.R_drewN | apply Kd.R_drew)); exact Kd.R_mono HO271.out (fun _ hk => hk.2)⟩, ⟨by repeat (first | (with_reducible first | exact HB.out | apply below_alloc | apply pw_below_drewN | apply below_drew1) | exact HB.out)⟩⟩
          case round =>
           clear H'
           try clear c1
           try clear c2
           try clear p2
           try clear c4
           try clear c6
           try clear p6
           try clear c9
           try clear c9b0
           try clear c9b1
           try clear c10
           try clear c12
           try clear c14
           try clear c15
           try clear c16
           try clear c19
           try clear c19b0
           try clear c19b1
           try clear c20
           try clear c20b0
           try clear c20b1
           try clear c22
           try clear c24
           try clear c24b0
           try clear c24b1
           try clear c24b2
           try clear p2
           try clear p6
           obtain ⟨x11_3, rfl, HA, HK3, HO_5, HO_10, HB⟩ := hrel
           cases gk with
           | zero => exact absurd HA.out (by simp [redlinelaw17_ViewsSame.l0])
           | succ k3 =>
            have H := HA.out
            clear HA
            simp only [redlinelaw17_ViewsSame.l0] at H
            by_cases c27 : x11_3 < (t269.length : Int)
            ·rw [if_pos c27] at H
             have c27b0 : decide (x11_3 < (t269.length : Int)) = true := decide_eq_true c27
             clear c27
             by_cases c28 : 0 ≤ x11_3
             ·rw [if_pos c28] at H
              have c28b0 : decide (0 ≤ x11_3) = true := decide_eq_true c28
              clear c28
              by_cases c29 : ((rdOf ByteArray.empty t269 x11_3).size : Int) > (wrap64 ((wrap64 (1 + (wrap64 (Int.tmod (IntKind.u64.wrap (a1)) 200)))) + 2))
              ·rw [if_pos c29] at H
               have c29b0 : decide ((wrap64 ((wrap64 (1 + (wrap64 (Int.tmod (IntKind.u64.wrap (a1)) 200)))) + 2)) < ((rdOf ByteArray.empty t269 x11_3).size : Int)) = true := decide_eq_true c29
               clear c29
               obtain ⟨ji30, hji30⟩ : ∃ j_ : Int, (wrap64 ((wrap64 (1 + (wrap64 (Int.tmod (IntKind.u64.wrap (a1)) 200)))) + 1)) = j_ := ⟨_, rfl⟩
               replace H : (if 0 ≤ (ji30) then (if (ji30) < ((rdOf ByteArray.empty t269 x11_3).size : Int) then (if (bt (rdOf ByteArray.empty t269 x11_3) (ji30)) = 32 then (redlinelaw17_ViewsSame.l0 k3 (wrap64 (1 + (wrap64 (Int.tmod (IntKind.u64.wrap (a1)) 200)))) t261 t266 t269 (wrap64 (x11_3 + 1))) else (some false)) else (none)) else (none)) = some r := by first | (rw [hji30] at H; exact H) | (simp only [hji30] at H ⊢; exact H)
               have hji30w : (IntKind.i64.wrap ((wrap64 (1 + (wrap64 (Int.tmod (IntKind.u64.wrap (a1)) 200)))) + 1)) = ji30 := (i64_w _).trans hji30
               by_cases c31 : 0 ≤ (ji30)
               ·rw [if_pos c31] at H
                have c31b0 : decide (0 ≤ (ji30)) = true := decide_eq_true c31
                clear c31
                by_cases c32 : (ji30) < ((rdOf ByteArray.empty t269 x11_3).size : Int)
                ·rw [if_pos c32] at H
                 have c32b0 : decide ((ji30) < ((rdOf ByteArray.empty t269 x11_3).size : Int)) = true := decide_eq_true c32
                 clear c32
                 by_cases c34 : (bt (rdOf ByteArray.empty t269 x11_3) (ji30)) = 32
                 ·rw [if_pos c34] at H
                  have c34b0 : ((bt (rdOf ByteArray.empty t269 x11_3) (ji30)) == 32) = true := beq_iff_eq.mpr c34
                  have c34b1 : ((bt (rdOf ByteArray.empty t269 x11_3) (ji30)) != 32) = false := bne_eq_false_iff_eq.mpr c34
                  clear c34
                  have H' := Aside0.mk H
                  clear H
                  have p272 : 0 ≤ (x11_3 : Int) := of_decide_eq_true (by first | (with_reducible assumption) | assumption)
                  have q272 : x11_3 < (t269.length : Int) := of_decide_eq_true (by first | (with_reducible assumption) | assumption)
                  obtain ⟨ad272, e272, hx272_0⟩ := Kd.at_string (Kd.R_reads' HO_10.out).2.2 x11_3 p272 q272
                  cases e272
                  replace p272 := eq_true p272
                  replace q272 := eq_true q272
                  have p273 : 0 ≤ (x11_3 : Int) := of_decide_eq_true (by first | (with_reducible assumption) | assumption)
                  have q273 : x11_3 < (t269.length : Int) := of_decide_eq_true (by first | (with_reducible assumption) | assumption)
                  obtain ⟨ad273, e273, hx273_0⟩ := Kd.at_string (Kd.R_reads' HO_10.out).2.2 x11_3 p273 q273
                  obtain rfl : ad272 = ad273 := (by injection e273)
                  replace p273 := eq_true p273
                  replace q273 := eq_true q273
                  have p33 : 0 ≤ ((ji30) : Int) := of_decide_eq_true (by first | (with_reducible assumption) | assumption)
                  have q33 : (ji30) < ((rdOf ByteArray.empty t269 x11_3).size : Int) := of_decide_eq_true (by first | (with_reducible assumption) | assumption)
                  have hx33 := bt_at (rdOf ByteArray.empty t269 x11_3) (ji30)
                  replace p33 := eq_true p33
                  replace q33 := eq_true q33
                  go_wp2
                  go_roundg k3
                  case measure => have := HJ5.out; have := HJ14.out; have := HK3.out; omega
                  case rel => exact ⟨(wrap64 (x11_3 + 1)), (by first | rfl | (simp; done) | (simp [*]; done)), H', ⟨by have := HJ5.out; have := HJ14.out; have := HK3.out; omega⟩, ⟨by (with_reducible repeat (first | apply Kd.R_alloc | apply Kd.R_drewN | apply Kd.R_drew)); exact HO_5.out⟩, ⟨by (with_reducible repeat (first | apply Kd.R_alloc | apply Kd.R_drewN | apply Kd.R_drew)); exact HO_10.out⟩, ⟨by repeat (first | (with_reducible first | exact HB.out | apply below_alloc | apply pw_below_drewN | apply below_drew1) | exact HB.out)⟩⟩
                 ·rw [if_neg c34] at H
                  have c34b0 : ((bt (rdOf ByteArray.empty t269 x11_3) (ji30)) == 32) = false := beq_eq_false_iff_ne.mpr c34
                  have c34b1 : ((bt (rdOf ByteArray.empty t269 x11_3) (ji30)) != 32) = true := bne_iff_ne.mpr c34
                  obtain rfl := Option.some.inj H
                  have p272 : 0 ≤ (x11_3 : Int) := of_decide_eq_true (by first | (with_reducible assumption) | assumption)
                  have q272 : x11_3 < (t269.length : Int) := of_decide_eq_true (by first | (with_reducible assumption) | assumption)
                  obtain ⟨ad272, e272, hx272_0⟩ := Kd.at_string (Kd.R_reads' HO_10.out).2.2 x11_3 p272 q272
                  cases e272
                  replace p272 := eq_true p272
                  replace q272 := eq_true q272
                  have p273 : 0 ≤ (x11_3 : Int) := of_decide_eq_true (by first | (with_reducible assumption) | assumption)
                  have q273 : x11_3 < (t269.length : Int) := of_decide_eq_true (by first | (with_reducible assumption) | assumption)
                  obtain ⟨ad273, e273, hx273_0⟩ := Kd.at_string (Kd.R_reads' HO_10.out).2.2 x11_3 p273 q273
                  obtain rfl : ad272 = ad273 := (by injection e273)
                  replace p273 := eq_true p273
                  replace q273 := eq_true q273
                  have p33 : 0 ≤ ((ji30) : Int) := of_decide_eq_true (by first | (with_reducible assumption) | assumption)
                  have q33 : (ji30) < ((rdOf ByteArray.empty t269 x11_3).size : Int) := of_decide_eq_true (by first | (with_reducible assumption) | assumption)
                  have hx33 := bt_at (rdOf ByteArray.empty t269 x11_3) (ji30)
                  replace p33 := eq_true p33
                  replace q33 := eq_true q33
                  go_wp2
                  go_ret
                  exact ⟨by first | rfl | (simp [errW_none, errW_some] <;> rfl) | (simp only [← hji30]; first | rfl | (simp [errW_none, errW_some] <;> rfl)) | (simp [*, errW_none, errW_some] <;> rfl), by repeat (first | (with_reducible first | exact HB.out | apply below_alloc | apply pw_below_drewN | apply below_drew1) | exact HB.out)⟩
                ·rw [if_neg c32] at H
                 exact absurd H (by simp)
               ·rw [if_neg c31] at H
                exact absurd H (by simp)
              ·rw [if_neg c29] at H
               have c29b0 : decide ((wrap64 ((wrap64 (1 + (wrap64 (Int.tmod (IntKind.u64.wrap (a1)) 200)))) + 2)) < ((rdOf ByteArray.empty t269 x11_3).size : Int)) = false := decide_eq_false c29
               clear c29
               have H' := Aside0.mk H
               clear H
               have p272 : 0 ≤ (x11_3 : Int) := of_decide_eq_true (by first | (with_reducible assumption) | assumption)
               have q272 : x11_3 < (t269.length : Int) := of_decide_eq_true (by first | (with_reducible assumption) | assumption)
               obtain ⟨ad272, e272, hx272_0⟩ := Kd.at_string (Kd.R_reads' HO_10.out).2.2 x11_3 p272 q272
               cases e272
               replace p272 := eq_true p272
               replace q272 := eq_true q272
               go_wp2
               go_roundg k3
               case measure => have := HJ5.out; have := HJ14.out; have := HK3.out; omega
               case rel => exact ⟨(wrap64 (x11_3 + 1)), (by first | rfl | (simp; done) | (simp [*]; done)), H', ⟨by have := HJ5.out; have := HJ14.out; have := HK3.out; omega⟩, ⟨by (with_reducible repeat (first | apply Kd.R_alloc | apply Kd.R_drewN | apply Kd.R_drew)); exact HO_5.out⟩, ⟨by (with_reducible repeat (first | apply Kd.R_alloc | apply Kd.R_drewN | apply Kd.R_drew)); exact HO_10.out⟩, ⟨by repeat (first | (with_reducible first | exact HB.out | apply below_alloc | apply pw_below_drewN | apply below_drew1) | exact HB.out)⟩⟩
             ·rw [if_neg c28] at H
              exact absurd H (by simp)
            ·rw [if_neg c27] at H
             have c27b0 : decide (x11_3 < (t269.length : Int)) = false := decide_eq_false c27
             clear c27
             have H' := Aside0.mk H
             clear H
             go_wp2
             go_loopg [12] k3 (fun kq v12 w' => ∃ (x12_4 : Int), v12 = .int .i64 x12_4 ∧ Aside0 (redlinelaw17_ViewsSame.l1 kq t261 t266 x12_4 = some r) ∧ Aside0 (kq ≤ k3) ∧ Aside0 (Kd.R Kd.string 9 w' w.heap.size (fun _ => True) (.slice Ao16 t261.length co16) t261) ∧ Aside0 (Below w.heap.size w w'))
             case atStart => exact ⟨(0), (by first | rfl | (simp; done) | (simp [*]; done)), H', ⟨Nat.le_refl _⟩, ⟨by (with_reducible repeat (first | apply Kd.R_alloc | apply Kd.R_drewN | apply Kd.R_drew)); exact Kd.R_mono HO_5.out (fun _ hk => trivial)⟩, ⟨by repeat (first | (with_reducible first | exact HB.out | apply below_alloc | apply pw_below_drewN | apply below_drew1) | exact HB.out)⟩⟩
             case round =>
              clear H'
              try clear c1
              try clear c2
              try clear p2
              try clear q2
              try clear hx2
              try clear c3
              try clear p3
              try clear q3
              try clear hx3
              try clear c4
              try clear c6
              try clear p6
              try clear c9
              try clear c9b0
              try clear c9b1
              try clear c10
              try clear c12
              try clear c14
              try clear c15
              try clear c16
              try clear c19
              try clear c19b0
              try clear c19b1
              try clear c20
              try clear c20b0
              try clear c20b1
              try clear c22
              try clear c24
              try clear c24b0
              try clear c24b1
              try clear c24b2
              try clear c27
              try clear c27b0
              try clear p27
              try clear q27
              try clear hx27
              try clear c28
              try clear c28b0
              try clear c29
              try clear c29b0
              try clear c31
              try clear c31b0
              try clear c32
              try clear c32b0
              try clear p33
              try clear q33
              try clear hx33
              try clear c34
              try clear c34b0
              try clear c34b1
              try clear hx272_0
              try clear hx273_0
              try clear p2
              try clear p272
              try clear p273
              try clear p33
              try clear p6
              try clear q272
              try clear q273
              try clear q33
              obtain ⟨x12_4, rfl, HA, HK4, HO_5, HB⟩ := hrel
              cases gk with
              | zero => exact absurd HA.out (by simp [redlinelaw17_ViewsSame.l1])
              | succ k4 =>
               have H := HA.out
               clear HA
               simp only [redlinelaw17_ViewsSame.l1] at H
               by_cases c35 : x12_4 < (t261.length : Int)
               ·rw [if_pos c35] at H
                have c35b0 : decide (x12_4 < (t261.length : Int)) = true := decide_eq_true c35
                clear c35
                by_cases c36 : 0 ≤ x12_4
                ·rw [if_pos c36] at H
                 have c36b0 : decide (0 ≤ x12_4) = true := decide_eq_true c36
                 clear c36
                 by_cases c37 : ((rdOf ByteArray.empty t261 x12_4).size : Int) > 3
                 ·rw [if_pos c37] at H
                  have c37b0 : decide (3 < ((rdOf ByteArray.empty t261 x12_4).size : Int)) = true := decide_eq_true c37
                  have c37b1 : decide (3 < (rdOf ByteArray.empty t261 x12_4).size) = true := decide_eq_true (by omega)
                  clear c37
                  by_cases c38 : 0 < ((rdOf ByteArray.empty t261 x12_4).size : Int)
                  ·rw [if_pos c38] at H
                   have c38b0 : decide (0 < ((rdOf ByteArray.empty t261 x12_4).size : Int)) = true := decide_eq_true c38
                   have c38b1 : decide (0 < (rdOf ByteArray.empty t261 x12_4).size) = true := decide_eq_true (by omega)
                   clear c38
                   by_cases c40 : (bt (rdOf ByteArray.empty t261 x12_4) 0) = 35
                   ·rw [if_pos c40] at H
                    have c40b0 : ((bt (rdOf ByteArray.empty t261 x12_4) 0) == 35) = true := beq_iff_eq.mpr c40
                    have c40b1 : ((bt (rdOf ByteArray.empty t261 x12_4) 0) != 35) = false := bne_eq_false_iff_eq.mpr c40
                    clear c40
                    obtain rfl := Option.some.inj H
                    have p274 : 0 ≤ (x12_4 : Int) := of_decide_eq_true (by first | (with_reducible assumption) | assumption)
                    have q274 : x12_4 < (t261.length : Int) := of_decide_eq_true (by first | (with_reducible assumption) | assumption)
                    obtain ⟨ad274, e274, hx274_0⟩ := Kd.at_string (Kd.R_reads' HO_5.out).2.2 x12_4 p274 q274
                    cases e274
                    replace p274 := eq_true p274
                    replace q274 := eq_true q274
                    have p275 : 0 ≤ (x12_4 : Int) := of_decide_eq_true (by first | (with_reducible assumption) | assumption)
                    have q275 : x12_4 < (t261.length : Int) := of_decide_eq_true (by first | (with_reducible assumption) | assumption)
                    obtain ⟨ad275, e275, hx275_0⟩ := Kd.at_string (Kd.R_reads' HO_5.out).2.2 x12_4 p275 q275
                    obtain rfl : ad274 = ad275 := (by injection e275)
                    replace p275 := eq_true p275
                    replace q275 := eq_true q275
                    have p39 : 0 ≤ (0 : Int) := (by omega)
                    have q39 : 0 < (rdOf ByteArray.empty t261 x12_4).size := (by have : (0 : Int) < ((rdOf ByteArray.empty t261 x12_4).size : Int) := of_decide_eq_true (by first | (with_reducible assumption) | assumption); omega)
                    have hx39 : ∀ h : 0 < (rdOf ByteArray.empty t261 x12_4).size, (((rdOf ByteArray.empty t261 x12_4)[0]'h).toNat : Int) = bt (rdOf ByteArray.empty t261 x12_4) 0 := bt_at (rdOf ByteArray.empty t261 x12_4) 0
                    clear p39
                    have qi39 : (0 < ((rdOf ByteArray.empty t261 x12_4).size : Int)) = True := eq_true (of_decide_eq_true (by first | (with_reducible assumption) | assumption))
                    replace q39 := eq_true q39
                    go_wp2
                    go_ret
                    exact ⟨by first | rfl | (simp [errW_none, errW_some] <;> rfl) | (simp [*, errW_none, errW_some] <;> rfl), by repeat (first | (with_reducible first | exact HB.out | apply below_alloc | apply pw_below_drewN | apply below_drew1) | exact HB.out)⟩
                   ·rw [if_neg c40] at H
                    have c40b0 : ((bt (rdOf ByteArray.empty t261 x12_4) 0) == 35) = false := beq_eq_false_iff_ne.mpr c40
                    have c40b1 : ((bt (rdOf ByteArray.empty t261 x12_4) 0) != 35) = true := bne_iff_ne.mpr c40
                    have H' := Aside0.mk H
                    clear H
                    have p274 : 0 ≤ (x12_4 : Int) := of_decide_eq_true (by first | (with_reducible assumption) | assumption)
                    have q274 : x12_4 < (t261.length : Int) := of_decide_eq_true (by first | (with_reducible assumption) | assumption)
                    obtain ⟨ad274, e274, hx274_0⟩ := Kd.at_string (Kd.R_reads' HO_5.out).2.2 x12_4 p274 q274
                    cases e274
                    replace p274 := eq_true p274
                    replace q274 := eq_true q274
                    have p275 : 0 ≤ (x12_4 : Int) := of_decide_eq_true (by first | (with_reducible assumption) | assumption)
                    have q275 : x12_4 < (t261.length : Int) := of_decide_eq_true (by first | (with_reducible assumption) | assumption)
                    obtain ⟨ad275, e275, hx275_0⟩ := Kd.at_string (Kd.R_reads' HO_5.out).2.2 x12_4 p275 q275
                    obtain rfl : ad274 = ad275 := (by injection e275)
                    replace p275 := eq_true p275
                    replace q275 := eq_true q275
                    have p39 : 0 ≤ (0 : Int) := (by omega)
                    have q39 : 0 < (rdOf ByteArray.empty t261 x12_4).size := (by have : (0 : Int) < ((rdOf ByteArray.empty t261 x12_4).size : Int) := of_decide_eq_true (by first | (with_reducible assumption) | assumption); omega)
                    have hx39 : ∀ h : 0 < (rdOf ByteArray.empty t261 x12_4).size, (((rdOf ByteArray.empty t261 x12_4)[0]'h).toNat : Int) = bt (rdOf ByteArray.empty t261 x12_4) 0 := bt_at (rdOf ByteArray.empty t261 x12_4) 0
                    clear p39
                    have qi39 : (0 < ((rdOf ByteArray.empty t261 x12_4).size : Int)) = True := eq_true (of_decide_eq_true (by first | (with_reducible assumption) | assumption))
                    replace q39 := eq_true q39
                    go_wp2
                    go_roundg k4
                    case measure => have := HJ5.out; have := HJ14.out; have := HK3.out; have := HK4.out; omega
                    case rel => exact ⟨(wrap64 (x12_4 + 1)), (by first | rfl | (simp; done) | (simp [*]; done)), H', ⟨by have := HJ5.out; have := HJ14.out; have := HK3.out; have := HK4.out; omega⟩, ⟨by (with_reducible repeat (first | apply Kd.R_alloc | apply Kd.R_drewN | apply Kd.R_drew)); exact HO_5.out⟩, ⟨by repeat (first | (with_reducible first | exact HB.out | apply below_alloc | apply pw_below_drewN | apply below_drew1) | exact HB.out)⟩⟩
                  ·rw [if_neg c38] at H
                   exact absurd H (by simp)
                 ·rw [if_neg c37] at H
                  have c37b0 : decide (3 < ((rdOf ByteArray.empty t261 x12_4).size : Int)) = false := decide_eq_false c37
                  have c37b1 : decide (3 < (rdOf ByteArray.empty t261 x12_4).size) = false := decide_eq_false (by omega)
                  clear c37
                  have H' := Aside0.mk H
                  clear H
                  have p274 : 0 ≤ (x12_4 : Int) := of_decide_eq_true (by first | (with_reducible assumption) | assumption)
                  have q274 : x12_4 < (t261.length : Int) := of_decide_eq_true (by first | (with_reducible assumption) | assumption)
                  obtain ⟨ad274, e274, hx274_0⟩ := Kd.at_string (Kd.R_reads' HO_5.out).2.2 x12_4 p274 q274
                  cases e274
                  replace p274 := eq_true p274
                  replace q274 := eq_true q274
                  go_wp2
                  go_roundg k4
                  case measure => have := HJ5.out; have := HJ14.out; have := HK3.out; have := HK4.out; omega
                  case rel => exact ⟨(wrap64 (x12_4 + 1)), (by first | rfl | (simp; done) | (simp [*]; done)), H', ⟨by have := HJ5.out; have := HJ14.out; have := HK3.out; have := HK4.out; omega⟩, ⟨by (with_reducible repeat (first | apply Kd.R_alloc | apply Kd.R_drewN | apply Kd.R_drew)); exact HO_5.out⟩, ⟨by repeat (first | (with_reducible first | exact HB.out | apply below_alloc | apply pw_below_drewN | apply below_drew1) | exact HB.out)⟩⟩
                ·rw [if_neg c36] at H
                 exact absurd H (by simp)
               ·rw [if_neg c35] at H
                have c35b0 : decide (x12_4 < (t261.length : Int)) = false := decide_eq_false c35
                clear c35
                replace H := Option.bind_eq_some_iff.mp H
                obtain ⟨⟨t276, t277⟩, A410, H⟩ := H
                replace H : ((views_ResolveN.f t266 (⟨#[78, 57]⟩ : ByteArray) false).bind fun bt278 => (if t277.isNone = true then (if bt278.2.isNone = true then (if t276.toList = t266.toList then (some (bt278.1.toList == t266.toList)) else (some false)) else (some false)) else (some false))) = some r := H
                have A41 := Aside0.mk A410
                clear A410
                replace H := Option.bind_eq_some_iff.mp H
                obtain ⟨⟨t278, t279⟩, A420, H⟩ := H
                replace H : (if t277.isNone = true then (if t279.isNone = true then (if t276.toList = t266.toList then (some (t278.toList == t266.toList)) else (some false)) else (some false)) else (some false)) = some r := H
                have A42 := Aside0.mk A420
                clear A420
                rcases t277 with _ | q280
                ·have H1 : (if t279.isNone = true then (if t276.toList = t266.toList then (some (t278.toList == t266.toList)) else (some false)) else (some false)) = some r := by rw [if_pos (show (none : Option Int).isNone = true by rfl)] at H; exact H
                 clear H
                 have H := H1
                 clear H1
                 try simp only [errW_none, errW_some]
                 rcases t279 with _ | q281
                 ·have H1 : (if t276.toList = t266.toList then (some (t278.toList == t266.toList)) else (some false)) = some r := by rw [if_pos (show (none : Option Int).isNone = true by rfl)] at H; exact H
                  clear H
                  have H := H1
                  clear H1
                  try simp only [errW_none, errW_some]
                  by_cases c43 : t276.toList = t266.toList
                  ·rw [if_pos c43] at H
                   have c43b0 : (t276.toList == t266.toList) = true := beq_iff_eq.mpr c43
                   have c43b1 : (t276.toList != t266.toList) = false := bne_eq_false_iff_eq.mpr c43
                   clear c43
                   obtain rfl := Option.some.inj H
                   go_wp2_with (first | ((with_reducible refine gate_callee (f := 7) rfl ?_); refine goesL_ (some 112) rfl rfl Tryd.func7 (by kernel_rfl) rfl #[.string t266, .string (⟨#[78, 57]⟩ : ByteArray), .bool true] rfl (by (try simp only [List.map_toArray, List.map_cons, List.map_nil]); first | done | rfl | (simp only [List.length_drop, List.length_take]; rfl)) ?_; (with_reducible refine (views_ResolveN.calls t266 (⟨#[78, 57]⟩ : ByteArray) true t276 none _ A41.out).mono ?_); rintro e w44 ⟨rfl, hb⟩; refine ⟨_, rfl, ?_⟩; have n0_ := Aside0.mk (Kd.R_below (by (with_reducible repeat (first | apply Kd.R_alloc | apply Kd.R_drewN | apply Kd.R_drew)); exact HO_5.out) hb); have n1_ := Aside0.mk (below_step (by repeat (first | (with_reducible first | exact HB.out | apply below_alloc | apply pw_below_drewN | apply below_drew1) | exact HB.out)) hb); clear HO_5; clear HB; have HO_5 := n0_; have HB := n1_; clear n0_ n1_; (try clear hb); (try clear hb2); (try clear hk); (try clear hi); (try simp only [errW_none, errW_some])) | ((with_reducible refine gate_callee (f := 7) rfl ?_); refine goesL_ (some 117) rfl rfl Tryd.func7 (by kernel_rfl) rfl #[.string t266, .string (⟨#[78, 57]⟩ : ByteArray), .bool false] rfl (by (try simp only [List.map_toArray, List.map_cons, List.map_nil]); first | done | rfl | (simp only [List.length_drop, List.length_take]; rfl)) ?_; (with_reducible refine (views_ResolveN.calls t266 (⟨#[78, 57]⟩ : ByteArray) false t278 none _ A42.out).mono ?_); rintro e w45 ⟨rfl, hb⟩; refine ⟨_, rfl, ?_⟩; have n0_ := Aside0.mk (Kd.R_below (by (with_reducible repeat (first | apply Kd.R_alloc | apply Kd.R_drewN | apply Kd.R_drew)); exact HO_5.out) hb); have n1_ := Aside0.mk (below_step (by repeat (first | (with_reducible first | exact HB.out | apply below_alloc | apply pw_below_drewN | apply below_drew1) | exact HB.out)) hb); clear HO_5; clear HB; have HO_5 := n0_; have HB := n1_; clear n0_ n1_; (try clear hb); (try clear hb2); (try clear hk); (try clear hi); (try simp only [errW_none, errW_some])))
                   go_ret
                   exact ⟨by first | rfl | (simp [errW_none, errW_some] <;> rfl) | (simp [*, errW_none, errW_some] <;> rfl), by repeat (first | (with_reducible first | exact HB.out | apply below_alloc | apply pw_below_drewN | apply below_drew1) | exact HB.out)⟩
                  ·rw [if_neg c43] at H
                   have c43b0 : (t276.toList == t266.toList) = false := beq_eq_false_iff_ne.mpr c43
                   have c43b1 : (t276.toList != t266.toList) = true := bne_iff_ne.mpr c43
                   obtain rfl := Option.some.inj H
                   go_wp2_with (first | ((with_reducible refine gate_callee (f := 7) rfl ?_); refine goesL_ (some 112) rfl rfl Tryd.func7 (by kernel_rfl) rfl #[.string t266, .string (⟨#[78, 57]⟩ : ByteArray), .bool true] rfl (by (try simp only [List.map_toArray, List.map_cons, List.map_nil]); first | done | rfl | (simp only [List.length_drop, List.length_take]; rfl)) ?_; (with_reducible refine (views_ResolveN.calls t266 (⟨#[78, 57]⟩ : ByteArray) true t276 none _ A41.out).mono ?_); rintro e w46 ⟨rfl, hb⟩; refine ⟨_, rfl, ?_⟩; have n0_ := Aside0.mk (Kd.R_below (by (with_reducible repeat (first | apply Kd.R_alloc | apply Kd.R_drewN | apply Kd.R_drew)); exact HO_5.out) hb); have n1_ := Aside0.mk (below_step (by repeat (first | (with_reducible first | exact HB.out | apply below_alloc | apply pw_below_drewN | apply below_drew1) | exact HB.out)) hb); clear HO_5; clear HB; have HO_5 := n0_; have HB := n1_; clear n0_ n1_; (try clear hb); (try clear hb2); (try clear hk); (try clear hi); (try simp only [errW_none, errW_some])) | ((with_reducible refine gate_callee (f := 7) rfl ?_); refine goesL_ (some 117) rfl rfl Tryd.func7 (by kernel_rfl) rfl #[.string t266, .string (⟨#[78, 57]⟩ : ByteArray), .bool false] rfl (by (try simp only [List.map_toArray, List.map_cons, List.map_nil]); first | done | rfl | (simp only [List.length_drop, List.length_take]; rfl)) ?_; (with_reducible refine (views_ResolveN.calls t266 (⟨#[78, 57]⟩ : ByteArray) false t278 none _ A42.out).mono ?_); rintro e w47 ⟨rfl, hb⟩; refine ⟨_, rfl, ?_⟩; have n0_ := Aside0.mk (Kd.R_below (by (with_reducible repeat (first | apply Kd.R_alloc | apply Kd.R_drewN | apply Kd.R_drew)); exact HO_5.out) hb); have n1_ := Aside0.mk (below_step (by repeat (first | (with_reducible first | exact HB.out | apply below_alloc | apply pw_below_drewN | apply below_drew1) | exact HB.out)) hb); clear HO_5; clear HB; have HO_5 := n0_; have HB := n1_; clear n0_ n1_; (try clear hb); (try clear hb2); (try clear hk); (try clear hi); (try simp only [errW_none, errW_some])))
                   go_ret
                   exact ⟨by first | rfl | (simp [errW_none, errW_some] <;> rfl) | (simp [*, errW_none, errW_some] <;> rfl), by repeat (first | (with_reducible first | exact HB.out | apply below_alloc | apply pw_below_drewN | apply below_drew1) | exact HB.out)⟩
                 ·have H1 : (some false) = some r := by rw [if_neg (show ¬ (some q281).isNone = true by simp)] at H; exact H
                  clear H
                  have H := H1
                  clear H1
                  try simp only [errW_none, errW_some]
                  obtain rfl := Option.some.inj H
                  go_wp2_with (first | ((with_reducible refine gate_callee (f := 7) rfl ?_); refine goesL_ (some 112) rfl rfl Tryd.func7 (by kernel_rfl) rfl #[.string t266, .string (⟨#[78, 57]⟩ : ByteArray), .bool true] rfl (by (try simp only [List.map_toArray, List.map_cons, List.map_nil]); first | done | rfl | (simp only [List.length_drop, List.length_take]; rfl)) ?_; (with_reducible refine (views_ResolveN.calls t266 (⟨#[78, 57]⟩ : ByteArray) true t276 none _ A41.out).mono ?_); rintro e w48 ⟨rfl, hb⟩; refine ⟨_, rfl, ?_⟩; have n0_ := Aside0.mk (Kd.R_below (by (with_reducible repeat (first | apply Kd.R_alloc | apply Kd.R_drewN | apply Kd.R_drew)); exact HO_5.out) hb); have n1_ := Aside0.mk (below_step (by repeat (first | (with_reducible first | exact HB.out | apply below_alloc | apply pw_below_drewN | apply below_drew1) | exact HB.out)) hb); clear HO_5; clear HB; have HO_5 := n0_; have HB := n1_; clear n0_ n1_; (try clear hb); (try clear hb2); (try clear hk); (try clear hi); (try simp only [errW_none, errW_some])) | ((with_reducible refine gate_callee (f := 7) rfl ?_); refine goesL_ (some 117) rfl rfl Tryd.func7 (by kernel_rfl) rfl #[.string t266, .string (⟨#[78, 57]⟩ : ByteArray), .bool false] rfl (by (try simp only [List.map_toArray, List.map_cons, List.map_nil]); first | done | rfl | (simp only [List.length_drop, List.length_take]; rfl)) ?_; (with_reducible refine (views_ResolveN.calls t266 (⟨#[78, 57]⟩ : ByteArray) false t278 (some q281) _ A42.out).mono ?_); rintro e w49 ⟨rfl, hb⟩; refine ⟨_, rfl, ?_⟩; have n0_ := Aside0.mk (Kd.R_below (by (with_reducible repeat (first | apply Kd.R_alloc | apply Kd.R_drewN | apply Kd.R_drew)); exact HO_5.out) hb); have n1_ := Aside0.mk (below_step (by repeat (first | (with_reducible first | exact HB.out | apply below_alloc | apply pw_below_drewN | apply below_drew1) | exact HB.out)) hb); clear HO_5; clear HB; have HO_5 := n0_; have HB := n1_; clear n0_ n1_; (try clear hb); (try clear hb2); (try clear hk); (try clear hi); (try simp only [errW_none, errW_some])))
                  go_ret
                  exact ⟨by first | rfl | (simp [errW_none, errW_some] <;> rfl) | (simp [*, errW_none, errW_some] <;> rfl), by repeat (first | (with_reducible first | exact HB.out | apply below_alloc | apply pw_below_drewN | apply below_drew1) | exact HB.out)⟩
                ·have H1 : (some false) = some r := by rw [if_neg (show ¬ (some q280).isNone = true by simp)] at H; exact H
                 clear H
                 have H := H1
                 clear H1
                 try simp only [errW_none, errW_some]
                 obtain rfl := Option.some.inj H
                 go_wp2_with (first | ((with_reducible refine gate_callee (f := 7) rfl ?_); refine goesL_ (some 112) rfl rfl Tryd.func7 (by kernel_rfl) rfl #[.string t266, .string (⟨#[78, 57]⟩ : ByteArray), .bool true] rfl (by (try simp only [List.map_toArray, List.map_cons, List.map_nil]); first | done | rfl | (simp only [List.length_drop, List.length_take]; rfl)) ?_; (with_reducible refine (views_ResolveN.calls t266 (⟨#[78, 57]⟩ : ByteArray) true t276 (some q280) _ A41.out).mono ?_); rintro e w50 ⟨rfl, hb⟩; refine ⟨_, rfl, ?_⟩; have n0_ := Aside0.mk (Kd.R_below (by (with_reducible repeat (first | apply Kd.R_alloc | apply Kd.R_drewN | apply Kd.R_drew)); exact HO_5.out) hb); have n1_ := Aside0.mk (below_step (by repeat (first | (with_reducible first | exact HB.out | apply below_alloc | apply pw_below_drewN | apply below_drew1) | exact HB.out)) hb); clear HO_5; clear HB; have HO_5 := n0_; have HB := n1_; clear n0_ n1_; (try clear hb); (try clear hb2); (try clear hk); (try clear hi); (try simp only [errW_none, errW_some])) | ((with_reducible refine gate_callee (f := 7) rfl ?_); refine goesL_ (some 117) rfl rfl Tryd.func7 (by kernel_rfl) rfl #[.string t266, .string (⟨#[78, 57]⟩ : ByteArray), .bool false] rfl (by (try simp only [List.map_toArray, List.map_cons, List.map_nil]); first | done | rfl | (simp only [List.length_drop, List.length_take]; rfl)) ?_; (with_reducible refine (views_ResolveN.calls t266 (⟨#[78, 57]⟩ : ByteArray) false t278 t279 _ A42.out).mono ?_); rintro e w51 ⟨rfl, hb⟩; refine ⟨_, rfl, ?_⟩; have n0_ := Aside0.mk (Kd.R_below (by (with_reducible repeat (first | apply Kd.R_alloc | apply Kd.R_drewN | apply Kd.R_drew)); exact HO_5.out) hb); have n1_ := Aside0.mk (below_step (by repeat (first | (with_reducible first | exact HB.out | apply below_alloc | apply pw_below_drewN | apply below_drew1) | exact HB.out)) hb); clear HO_5; clear HB; have HO_5 := n0_; have HB := n1_; clear n0_ n1_; (try clear hb); (try clear hb2); (try clear hk); (try clear hi); (try simp only [errW_none, errW_some])))
                 go_ret
                 exact ⟨by first | rfl | (simp [errW_none, errW_some] <;> rfl) | (simp [*, errW_none, errW_some] <;> rfl), by repeat (first | (with_reducible first | exact HB.out | apply below_alloc | apply pw_below_drewN | apply below_drew1) | exact HB.out)⟩
         ·rw [if_neg c24] at H
          have c24b0 : ((t269.length : Int) == (t261.length : Int)) = false := beq_eq_false_iff_ne.mpr c24
          have c24b1 : ((t269.length : Int) != (t261.length : Int)) = true := bne_iff_ne.mpr c24
          have c24b2 : (t269.length == t261.length) = false := by first | simpa using c24 | (simp at c24 ⊢; omega)
          obtain rfl := Option.some.inj H
          go_wp2_with (first | ((with_reducible refine gate_callee (f := 15) rfl ?_); refine goesL_ (some 60) rfl rfl Tryd.func15 (by kernel_rfl) rfl #[.string t264] rfl (by (try simp only [List.map_toArray, List.map_cons, List.map_nil]); first | done | rfl | (simp only [List.length_drop, List.length_take]; rfl)) ?_; (with_reducible refine (lines_Split.calls t264 t269 _ A23.out).mono ?_); rintro e w52 ⟨v270, rfl, ho0, hb⟩; refine ⟨_, rfl, ?_⟩; have n0_ := Aside0.mk (Kd.R_elder' (by (with_reducible repeat (first | apply Kd.R_alloc | apply Kd.R_drewN | apply Kd.R_drew)); exact HO_5.out) (Kd.R_base ho0) hb); have n1_ := Aside0.mk (Kd.R_lower (Kd.R_new' ho0 (Kd.R_lt (by (with_reducible repeat (first | apply Kd.R_alloc | apply Kd.R_drewN | apply Kd.R_drew)); exact HO_5.out))) (below_size (by repeat (first | (with_reducible first | exact HB.out | apply below_alloc | apply pw_below_drewN | apply below_drew1) | exact HB.out)))); have n2_ := Aside0.mk (below_step (by repeat (first | (with_reducible first | exact HB.out | apply below_alloc | apply pw_below_drewN | apply below_drew1) | exact HB.out)) hb); clear HO_5; clear HB; have HO_5 := n0_; have HO271 := n1_; have HB := n2_; clear n0_ n1_ n2_; (try clear hb); (try clear hb2); (try clear hk); (try clear hi); (try clear ho0); obtain ⟨Ao53, co53, eo53⟩ := Kd.R_slice HO271.out; subst eo53))
          go_ret
          exact ⟨by first | rfl | (simp [errW_none, errW_some] <;> rfl) | (simp [*, errW_none, errW_some] <;> rfl), by repeat (first | (with_reducible first | exact HB.out | apply below_alloc | apply pw_below_drewN | apply below_drew1) | exact HB.out)⟩
  ·replace c4 := Bool.eq_false_iff.mpr c4
   subst c4
   have H1 : (some false) = some r := by rw [if_neg (show ¬ (false = true) by decide)] at H; exact H
   clear H
   have H := H1
   clear H1
   obtain rfl := Option.some.inj H
   go_enter Tryd.func6, Tryd.ntmps6
   go_wp2_with (first | ((with_reducible refine gate_callee (f := 14) rfl ?_); refine goesL_ (some 17) rfl rfl Tryd.func14 (by kernel_rfl) rfl #[] rfl (by (try simp only [List.map_toArray, List.map_cons, List.map_nil]); first | done | rfl | (simp only [List.length_drop, List.length_take]; rfl)) ?_; (with_reducible refine (redlinelaw17_works.calls k  false _ A3.out).mono ?_); rintro e w54 ⟨rfl, hb⟩; refine ⟨_, rfl, ?_⟩; have n0_ := Aside0.mk (below_step (by repeat (first | (with_reducible first | exact HB.out | apply below_alloc | apply pw_below_drewN | apply below_drew1) | exact HB.out)) hb); clear HB; have HB := n0_; clear n0_; (try clear hb); (try clear hb2); (try clear hk); (try clear hi)))
   go_ret
   exact ⟨by first | rfl | (simp [errW_none, errW_some] <;> rfl) | (simp [*, errW_none, errW_some] <;> rfl), by repeat (first | (with_reducible first | exact HB.out | apply below_alloc | apply pw_below_drewN | apply below_drew1) | exact HB.out)⟩
def redlinelaw17_ViewsSame.Pure : Prop := ∀ (a0 : ByteArray) (a1 : Int), a0.size ≤ 140737488351232 → (Lit.int .i64 a1).wf = true → ∃ k, redlinelaw17_ViewsSame.f k a0 a1 = some true
end Go.Proofs.YtchhelmilbheoaaDoor.X
