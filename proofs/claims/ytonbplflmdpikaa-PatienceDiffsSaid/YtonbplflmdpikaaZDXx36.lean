import Derived.Test.YtonbplflmdpikaaZDXx0
import Derived.Test.YtonbplflmdpikaaZDXx8
import Derived.Test.YtonbplflmdpikaaZDXx10
import Derived.Test.YtonbplflmdpikaaZDXx32
import Derived.Test.YtonbplflmdpikaaZDXx35
import Derived.Test.YtonbplflmdpikaaZDWA
namespace Go.Proofs.Ytonbplflmdpikaa.X
open Go.RowKit Go.Proofs.YtonbplflmdpikaaW.PrintWords Go.Proofs.YtonbplflmdpikaaW.PrintLast Go.Proofs.YtonbplflmdpikaaW.PrintMore
attribute [local go_sem] max2_int min2_int max_two min_two max_three min_three max_four min_four   -- for this text's walks alone
open Go.Proofs.YtonbplflmdpikaaW.HandWords Go.Proofs.YtonbplflmdpikaaW.HandShort
set_option linter.unusedVariables false
set_option linter.unusedSimpArgs false
mutual
def redlineref07_piece.j0 : Nat → List Int → List Int → List Int → Bool → Int → Int → Int → Int → Option (List Int)
  | 0, _, _, _, _, _, _, _, _ => none
  | k + 1, x0, x1, x2, x30, x293000, x293001, x293002, x293003 => if x30 = true then (some x0) else (if 0 ≤ x293000 then (if x293000 ≤ x293001 then (if x293001 ≤ (x1.length : Int) then (if 0 ≤ x293002 then (if x293002 ≤ x293003 then (if x293003 ≤ (x2.length : Int) then ((redlineref07_Unique.f k ((x1.take (x293001 : Int).toNat).drop (x293000 : Int).toNat) ((x2.take (x293003 : Int).toNat).drop (x293002 : Int).toNat)).bind fun t306 => ((redlineref07_Longest.f k t306).bind fun t309 => (if (t309.length : Int) = 0 then ((redlineref07_Least.f k x0 x1 x2 x293000 x293001 x293002 x293003).bind fun t312 => (some t312)) else (redlineref07_piece.l0 k x0 x1 x2 t309 x293000 x293002 0 x293000 x293001 x293002 x293003)))) else (none)) else (none)) else (none)) else (none)) else (none)) else (none))
def redlineref07_piece.l0 : Nat → List Int → List Int → List Int → List (S26) → Int → Int → Int → Int → Int → Int → Int → Option (List Int)
  | 0, _, _, _, _, _, _, _, _, _, _, _ => none
  | k + 1, x0, x1, x2, x8, x9, x10, x11, x293000, x293001, x293002, x293003 => if x11 < (x8.length : Int) then (if 0 ≤ x11 then (if 0 ≤ (wrap64 (x293000 + ((rd_T26 x8 x11).f0))) then (if (wrap64 (x293000 + ((rd_T26 x8 x11).f0))) < (x0.length : Int) then ((redlineref07_piece.f k (x0.set ((wrap64 (x293000 + ((rd_T26 x8 x11).f0))) : Int).toNat (wrap64 (x293002 + ((rd_T26 x8 x11).f1)))) x1 x2 x9 (wrap64 (x293000 + ((rd_T26 x8 x11).f0))) x10 (wrap64 (x293002 + ((rd_T26 x8 x11).f1)))).bind fun t316 => (redlineref07_piece.l0 k t316 x1 x2 x8 (wrap64 ((wrap64 (x293000 + ((rd_T26 x8 x11).f0))) + 1)) (wrap64 ((wrap64 (x293002 + ((rd_T26 x8 x11).f1))) + 1)) (wrap64 (x11 + 1)) x293000 x293001 x293002 x293003)) else (none)) else (none)) else (none)) else ((redlineref07_piece.f k x0 x1 x2 x9 x293001 x10 x293003).bind fun t317 => (some t317))
def redlineref07_piece.f : Nat → List Int → List Int → List Int → Int → Int → Int → Int → Option (List Int)
  | 0, _, _, _, _, _, _, _ => none
  | k + 1, l0, l1, l2, a3_0, a3_1, a3_2, a3_3 => (redlineref07_Trim.f k l0 l1 l2 a3_0 a3_1 a3_2 a3_3).bind fun bt293 => (if bt293.1 = bt293.2.1 then (redlineref07_piece.j0 k bt293.2.2.2.2 l1 l2 true bt293.1 bt293.2.1 bt293.2.2.1 bt293.2.2.2.1) else (redlineref07_piece.j0 k bt293.2.2.2.2 l1 l2 (bt293.2.2.1 == bt293.2.2.2.1) bt293.1 bt293.2.1 bt293.2.2.1 bt293.2.2.2.1))
end
def redlineref07_piece.T3 : Bool × List (List Nat × List Nat) := (true, [([], []), ([], []), ([1], [1]), ([], []), ([3], [3]), ([0, 2, 4], [0, 2, 4]), ([], []), ([], []), ([7], [7]), ([], []), ([9], [9]), ([6, 8, 10], [6, 8, 10]), ([5, 11], [5, 11]), ([12, 12], [12]), ([13, 13, 0, 1, 2, 3, 4, 5, 6, 7, 8, 9, 10, 11, 12, 13], [13])])
def redlineref07_piece.B3 : List Nat := [0, 0, 2, 0, 8, 31, 0, 0, 128, 0, 512, 1984, 4095, 8191, 16383]
theorem redlineref07_piece.tab3 : rtab .any (opsOf Try.f29 3) = redlineref07_piece.T3 := by kernel_rfl
theorem redlineref07_piece.bits3 : waitsOk redlineref07_piece.T3.2 redlineref07_piece.B3 = true := by kernel_rfl
def redlineref07_piece.T10 : Bool × List (List Nat × List Nat) := (true, [([], []), ([0], [0]), ([], []), ([], []), ([2, 3], [2, 3]), ([4], [4]), ([5], [5]), ([1, 6], [1, 6]), ([], []), ([8], [8]), ([], []), ([], []), ([10, 11], [10, 11]), ([12], [12]), ([13], [13]), ([9, 14], [9, 14]), ([7, 0, 1, 2, 3, 4, 5, 6, 7], [7]), ([15, 16, 0, 1, 2, 3, 4, 5, 6, 7, 8, 9, 10, 11, 12, 13, 14, 15, 16], [15])])
def redlineref07_piece.B10 : List Nat := [0, 1, 0, 0, 12, 28, 60, 127, 0, 256, 0, 0, 3072, 7168, 15360, 32512, 255, 131071]
theorem redlineref07_piece.tab10 : rtab .any (opsOf Try.f29 10) = redlineref07_piece.T10 := by kernel_rfl
theorem redlineref07_piece.bits10 : waitsOk redlineref07_piece.T10.2 redlineref07_piece.B10 = true := by kernel_rfl
set_option maxHeartbeats 8000000 in
set_option maxRecDepth 100000 in
theorem redlineref07_piece.calls (k : Nat) : ∀ (P0_ : Nat → Prop) (u9000_ : Value) (l0 : List Int) (A1 : Option Addr) (c1 : Nat) (l1 : List Int) (A2 : Option Addr) (c2 : Nat) (l2 : List Int) (a3_0 : Int) (a3_1 : Int) (a3_2 : Int) (a3_3 : Int) (r : List Int) (w0 w : World) (hB : Below w0.heap.size w0 w) (ho0 : Kd.R (Kd.int .i64) 3 w w0.heap.size P0_ u9000_ l0) (hr1 : ∀ W_, Kept w W_ (fun k_ => P0_ k_) → Kd.C (Kd.int .i64) W_ A1 l1.length l1) (hc1 : l1.length ≤ c1) (hr2 : ∀ W_, Kept w W_ (fun k_ => P0_ k_) → Kd.C (Kd.int .i64) W_ A2 l2.length l2) (hc2 : l2.length ≤ c2) (h : redlineref07_piece.f k l0 l1 l2 a3_0 a3_1 a3_2 a3_3 = some r),
    Calls Try.prog 29 #[u9000_, .slice A1 l1.length c1, .slice A2 l2.length c2, .agg #[.int .i64 a3_0, .int .i64 a3_1, .int .i64 a3_2, .int .i64 a3_3]] w fun e w' => e = .returned (.tuple #[]) ∧ Kd.R (Kd.int .i64) 3 w' w0.heap.size (fun k_ => (P0_ k_ ∨ w.heap.size ≤ k_)) u9000_ r ∧ Below w0.heap.size w0 w' ∧ Kept w w' (fun k_ => P0_ k_) := by
  induction k using Nat.strongRecOn with
  | _ k ih =>
  intro P0_ u9000_ l0 A1 c1 l1 A2 c2 l2 a3_0 a3_1 a3_2 a3_3 r w0 w hB ho0 hr1 hc1 hr2 hc2 h
  cases k with
  | zero => exact absurd h (by simp [redlineref07_piece.f])
  | succ k =>
  simp only [redlineref07_piece.f] at h
  have hu63 := Try.underlying63
  have HO0 := Aside0.mk (show Kd.R (Kd.int .i64) 3 w w0.heap.size (fun k_ => (P0_ k_ ∨ w.heap.size ≤ k_)) u9000_ l0 from Kd.R_mono ho0 (fun k_ hk => (.inl hk)))
  have HR1 := Aside0.mk hr1
  have HC1 := Aside0.mk hc1
  clear hr1 hc1
  have HR2 := Aside0.mk hr2
  have HC2 := Aside0.mk hc2
  clear hr2 hc2
  have HK := Aside0.mk (Kept.refl w (fun k_ => P0_ k_))
  have HW0 := Aside0.mk hB.size
  have HB := Aside0.mk hB
  clear hB
  have H : ((redlineref07_Trim.f k l0 l1 l2 a3_0 a3_1 a3_2 a3_3).bind fun bt293 => (if bt293.1 = bt293.2.1 then (redlineref07_piece.j0 k bt293.2.2.2.2 l1 l2 true bt293.1 bt293.2.1 bt293.2.2.1 bt293.2.2.2.1) else (redlineref07_piece.j0 k bt293.2.2.2.2 l1 l2 (bt293.2.2.1 == bt293.2.2.2.1) bt293.1 bt293.2.1 bt293.2.2.1 bt293.2.2.2.1))) = some r := h
  clear h
  replace H := Option.bind_eq_some_iff.mp H
  obtain ⟨⟨t293, t294, t295, t296, t297⟩, A50, H⟩ := H
  replace H : (if t293 = t294 then (redlineref07_piece.j0 k t297 l1 l2 true t293 t294 t295 t296) else (redlineref07_piece.j0 k t297 l1 l2 (t295 == t296) t293 t294 t295 t296)) = some r := H
  have A5 := Aside0.mk A50
  clear A50
  have HC6 := Aside0.mk H
  clear H
  go_enter Try.func29, Try.ntmps29
  go_upto_region 2 with (first | ((with_reducible refine gate_dst (N := 7) rfl ?_); refine box_event ?hg (N := 7) ?hd (cs := #[.int .i64 a3_0, .int .i64 a3_1, .int .i64 a3_2, .int .i64 a3_3]) (t := 63) ?hr ?_; (case hd => rfl); (case hg => rfl); (case hr => first | (go_simp; done) | (go_simp; rfl)); intro gb292 hg w7 hbox hb; have n0_ := Aside0.mk (Kd.R_below (by (with_reducible repeat (first | apply Kd.R_alloc | apply Kd.R_drewN | apply Kd.R_drew)); exact HO0.out) hb); have n1_ := Aside0.mk (Kept.below (S := (fun k_ => P0_ k_)) (by repeat (first | (with_reducible first | exact HK.out | apply Kept.alloc | apply Kept.drewN | apply Kept.drew) | exact HK.out)) hb); have n2_ := Aside0.mk (below_step (by repeat (first | (with_reducible first | exact HB.out | apply below_alloc | apply pw_below_drewN | apply below_drew1) | exact HB.out)) hb); have n3_ := Aside0.mk (hbox); have n4_ := Aside0.mk ((by rw [hg]; exact (by first | exact HK.out.1 | exact (show Kept w _ (fun k_ => P0_ k_) from by repeat (first | (with_reducible first | exact HK.out | apply Kept.alloc | apply Kept.drewN | apply Kept.drew) | exact HK.out)).1) : w.heap.size ≤ gb292)); have n5_ := Aside0.mk ((by rw [hg]; exact (below_size (by repeat (first | (with_reducible first | exact HB.out | apply below_alloc | apply pw_below_drewN | apply below_drew1) | exact HB.out))) : w0.heap.size ≤ gb292)); clear HO0; clear HK; clear HB; have HO0 := n0_; have HK := n1_; have HB := n2_; have BK292 := n3_; have GW292 := n4_; have GE292 := n5_; clear n0_ n1_ n2_ n3_ n4_ n5_; clear hb hbox hg; have hcz8_0 : w7.cell? ⟨gb292, 0, none⟩ = some (.int .i64 a3_0) := (blk_cell BK292.out 0).trans rfl; have hcz8_1 : w7.cell? ⟨gb292, 1, none⟩ = some (.int .i64 a3_1) := (blk_cell BK292.out 1).trans rfl; have hcz8_2 : w7.cell? ⟨gb292, 2, none⟩ = some (.int .i64 a3_2) := (blk_cell BK292.out 2).trans rfl; have hcz8_3 : w7.cell? ⟨gb292, 3, none⟩ = some (.int .i64 a3_3) := (blk_cell BK292.out 3).trans rfl; have hfz8_0 := blk_frozen BK292.out 0; have hfz8_1 := blk_frozen BK292.out 1; have hfz8_2 := blk_frozen BK292.out 2; have hfz8_3 := blk_frozen BK292.out 3; obtain ⟨Ao9, co9, eo9⟩ := Kd.R_slice HO0.out; subst eo9) | ((with_reducible refine gate_callee (f := 40) rfl ?_); refine goesL_ (some 18) rfl rfl Try.func40 (by kernel_rfl) rfl #[.slice Ao9 l0.length co9, .slice A1 l1.length c1, .slice A2 l2.length c2, .agg #[.int .i64 a3_0, .int .i64 a3_1, .int .i64 a3_2, .int .i64 a3_3]] rfl (by (try simp only [List.map_toArray, List.map_cons, List.map_nil]); first | done | rfl | (simp only [List.length_drop, List.length_take]; rfl)) ?_; (with_reducible refine (redlineref07_Trim.calls k (fun k_ => some k_ = (.slice Ao9 l0.length co9 : Value).ownBlock) (.slice Ao9 l0.length co9) l0 _ _ l1 _ _ l2 a3_0 a3_1 a3_2 a3_3 t293 t294 t295 t296 t297 w0 _ ?side1 ?side2 ?side3 ?side4 ?side5 ?side6 A5.out).mono ?_); (case side1 => repeat (first | (with_reducible first | exact HB.out | apply below_alloc | apply pw_below_drewN | apply below_drew1 | refine below_set ?_ GE292.out) | exact HB.out)); (case side2 => exact Kd.R_tight rfl HO0.out); (case side3 => exact Kd.C_kept_call HR1.out (by repeat (first | (with_reducible first | exact HK.out | apply Kept.alloc | apply Kept.drewN | apply Kept.drew | refine Kept.setCell ?_ (.inr GW292.out) _) | exact HK.out)) (fun k_ hs_ => (fun e_ => (HO0.out.1 k_ e_.symm)) hs_)); (case side4 => exact HC1.out); (case side5 => exact Kd.C_kept_call HR2.out (by repeat (first | (with_reducible first | exact HK.out | apply Kept.alloc | apply Kept.drewN | apply Kept.drew | refine Kept.setCell ?_ (.inr GW292.out) _) | exact HK.out)) (fun k_ hs_ => (fun e_ => (HO0.out.1 k_ e_.symm)) hs_)); (case side6 => exact HC2.out); rintro e w10 ⟨rfl, hy0, hb, hkp⟩; refine ⟨_, rfl, ?_⟩; have n0_ := Aside0.mk (Kd.R_reok rfl hy0 (fun k_ e_ => HO0.out.1 k_ e_)); have n1_ := Aside0.mk (blk_kept (by (with_reducible repeat (first | refine blk_drewN ?_ _ | refine blk_drew ?_ | refine blk_alloc ?_ _)); exact BK292.out) hkp (fun hs_ => (fun e_ => (Kd.R_ne HO0.out BK292.out (by decide)) e_) hs_)); have n2_ := Aside0.mk (Kept.then_ (S := (fun k_ => P0_ k_)) (by repeat (first | (with_reducible first | exact HK.out | apply Kept.alloc | apply Kept.drewN | apply Kept.drew | refine Kept.setCell ?_ (.inr GW292.out) _) | exact HK.out)) hkp (fun k_ hs_ => (fun e_ => (HO0.out.1 k_ e_.symm)) hs_)); have n3_ := Aside0.mk (hb); clear HO0; clear BK292; clear HK; clear HB; have HO0 := n0_; have BK292 := n1_; have HK := n2_; have HB := n3_; clear n0_ n1_ n2_ n3_; (try clear hb); (try clear hkp); (try clear hy0); have hcz11_0 : w10.cell? ⟨gb292, 0, none⟩ = some (.int .i64 a3_0) := (blk_cell BK292.out 0).trans rfl; have hcz11_1 : w10.cell? ⟨gb292, 1, none⟩ = some (.int .i64 a3_1) := (blk_cell BK292.out 1).trans rfl; have hcz11_2 : w10.cell? ⟨gb292, 2, none⟩ = some (.int .i64 a3_2) := (blk_cell BK292.out 2).trans rfl; have hcz11_3 : w10.cell? ⟨gb292, 3, none⟩ = some (.int .i64 a3_3) := (blk_cell BK292.out 3).trans rfl; have hfz11_0 := blk_frozen BK292.out 0; have hfz11_1 := blk_frozen BK292.out 1; have hfz11_2 := blk_frozen BK292.out 2; have hfz11_3 := blk_frozen BK292.out 3))
  (try simp only [Act.put, List.setIfInBounds_toArray, List.set_cons_zero, List.set_cons_succ])
  go_cut [30] (fun v30 wc => ∃ (kq : Nat) (x30_5 : Bool), v30 = .bool x30_5 ∧ Aside0 (redlineref07_piece.j0 kq t297 l1 l2 x30_5 t293 t294 t295 t296 = some r) ∧ Aside0 (kq ≤ k) ∧ Aside0 (Kd.R (Kd.int .i64) 3 wc w0.heap.size (fun k_ => (P0_ k_ ∨ w.heap.size ≤ k_)) (.slice Ao9 l0.length co9) t297) ∧ Aside0 (wc.heap[gb292]? = some (.cells #[.int .i64 t293, .int .i64 t294, .int .i64 t295, .int .i64 t296] 63 (0, 0))) ∧ Aside0 (Kept w wc (fun k_ => P0_ k_)) ∧ Aside0 (Below w0.heap.size w0 wc))
  case first =>
   have H := HC6.out
   clear HC6
   by_cases c12 : t293 = t294
   ·rw [if_pos c12] at H
    have c12b0 : (t293 == t294) = true := beq_iff_eq.mpr c12
    have c12b1 : (t293 != t294) = false := bne_eq_false_iff_eq.mpr c12
    clear c12
    (first | rw [c12b0] | rw [c12b1] | (simp only [i64_w, i32_w]; rw [c12b0]) | skip)
    have H' := Aside0.mk H
    clear H
    have hcz13_0 : w10.cell? ⟨gb292, 0, none⟩ = some (.int .i64 a3_0) := (blk_cell BK292.out 0).trans rfl
    have hcz13_1 : w10.cell? ⟨gb292, 1, none⟩ = some (.int .i64 a3_1) := (blk_cell BK292.out 1).trans rfl
    have hcz13_2 : w10.cell? ⟨gb292, 2, none⟩ = some (.int .i64 a3_2) := (blk_cell BK292.out 2).trans rfl
    have hcz13_3 : w10.cell? ⟨gb292, 3, none⟩ = some (.int .i64 a3_3) := (blk_cell BK292.out 3).trans rfl
    have hfz13_0 := blk_frozen BK292.out 0
    have hfz13_1 := blk_frozen BK292.out 1
    have hfz13_2 := blk_frozen BK292.out 2
    have hfz13_3 := blk_frozen BK292.out 3
    go_wp2
    go_meet
    case rel => exact ⟨_, (true), (by first | rfl | (simp; done) | (simp [*]; done)), H', ⟨by first | omega | exact Nat.le_refl _⟩, ⟨by (with_reducible repeat (first | apply Kd.R_alloc | apply Kd.R_drewN | apply Kd.R_drew)); exact Kd.R_mono (Kd.R_far (p := ⟨gb292, 3, none⟩) (Kd.R_far (p := ⟨gb292, 2, none⟩) (Kd.R_far (p := ⟨gb292, 1, none⟩) (Kd.R_far (p := ⟨gb292, 0, none⟩) (Kd.R_types HO0.out BK292.out (by decide)) (fun _ hk => hk.2) (.int .i64 t293)) (fun _ hk => hk.2) (.int .i64 t294)) (fun _ hk => hk.2) (.int .i64 t295)) (fun _ hk => hk.2) (.int .i64 t296)) (fun _ hk => hk.1)⟩, ⟨by (with_reducible repeat (first | refine blk_drewN ?_ _ | refine blk_drew ?_ | refine blk_alloc ?_ _)); refine blk_put (cs := #[.int .i64 t293, .int .i64 t294, .int .i64 t295, .int .i64 a3_3]) ?_ 3 _ rfl; (with_reducible repeat (first | refine blk_drewN ?_ _ | refine blk_drew ?_ | refine blk_alloc ?_ _)); refine blk_put (cs := #[.int .i64 t293, .int .i64 t294, .int .i64 a3_2, .int .i64 a3_3]) ?_ 2 _ rfl; (with_reducible repeat (first | refine blk_drewN ?_ _ | refine blk_drew ?_ | refine blk_alloc ?_ _)); refine blk_put (cs := #[.int .i64 t293, .int .i64 a3_1, .int .i64 a3_2, .int .i64 a3_3]) ?_ 1 _ rfl; (with_reducible repeat (first | refine blk_drewN ?_ _ | refine blk_drew ?_ | refine blk_alloc ?_ _)); refine blk_put (cs := #[.int .i64 a3_0, .int .i64 a3_1, .int .i64 a3_2, .int .i64 a3_3]) ?_ 0 _ rfl; (with_reducible repeat (first | refine blk_drewN ?_ _ | refine blk_drew ?_ | refine blk_alloc ?_ _)); exact BK292.out⟩, ⟨by repeat (first | (with_reducible first | exact HK.out | apply Kept.alloc | apply Kept.drewN | apply Kept.drew | refine Kept.setCell ?_ (.inr GW292.out) _) | exact HK.out)⟩, ⟨by repeat (first | (with_reducible first | exact HB.out | apply below_alloc | apply pw_below_drewN | apply below_drew1 | refine below_set ?_ GE292.out) | exact HB.out)⟩⟩
   ·rw [if_neg c12] at H
    have c12b0 : (t293 == t294) = false := beq_eq_false_iff_ne.mpr c12
    have c12b1 : (t293 != t294) = true := bne_iff_ne.mpr c12
    (first | rw [c12b0] | rw [c12b1] | (simp only [i64_w, i32_w]; rw [c12b0]) | skip)
    have H' := Aside0.mk H
    clear H
    have hcz14_0 : w10.cell? ⟨gb292, 0, none⟩ = some (.int .i64 a3_0) := (blk_cell BK292.out 0).trans rfl
    have hcz14_1 : w10.cell? ⟨gb292, 1, none⟩ = some (.int .i64 a3_1) := (blk_cell BK292.out 1).trans rfl
    have hcz14_2 : w10.cell? ⟨gb292, 2, none⟩ = some (.int .i64 a3_2) := (blk_cell BK292.out 2).trans rfl
    have hcz14_3 : w10.cell? ⟨gb292, 3, none⟩ = some (.int .i64 a3_3) := (blk_cell BK292.out 3).trans rfl
    have hfz14_0 := blk_frozen BK292.out 0
    have hfz14_1 := blk_frozen BK292.out 1
    have hfz14_2 := blk_frozen BK292.out 2
    have hfz14_3 := blk_frozen BK292.out 3
    go_wp2
    go_meet
    case rel => exact ⟨_, ((t295 == t296)), (by first | rfl | (simp; done) | (simp [*]; done)), H', ⟨by first | omega | exact Nat.le_refl _⟩, ⟨by (with_reducible repeat (first | apply Kd.R_alloc | apply Kd.R_drewN | apply Kd.R_drew)); exact Kd.R_mono (Kd.R_far (p := ⟨gb292, 3, none⟩) (Kd.R_far (p := ⟨gb292, 2, none⟩) (Kd.R_far (p := ⟨gb292, 1, none⟩) (Kd.R_far (p := ⟨gb292, 0, none⟩) (Kd.R_types HO0.out BK292.out (by decide)) (fun _ hk => hk.2) (.int .i64 t293)) (fun _ hk => hk.2) (.int .i64 t294)) (fun _ hk => hk.2) (.int .i64 t295)) (fun _ hk => hk.2) (.int .i64 t296)) (fun _ hk => hk.1)⟩, ⟨by (with_reducible repeat (first | refine blk_drewN ?_ _ | refine blk_drew ?_ | refine blk_alloc ?_ _)); refine blk_put (cs := #[.int .i64 t293, .int .i64 t294, .int .i64 t295, .int .i64 a3_3]) ?_ 3 _ rfl; (with_reducible repeat (first | refine blk_drewN ?_ _ | refine blk_drew ?_ | refine blk_alloc ?_ _)); refine blk_put (cs := #[.int .i64 t293, .int .i64 t294, .int .i64 a3_2, .int .i64 a3_3]) ?_ 2 _ rfl; (with_reducible repeat (first | refine blk_drewN ?_ _ | refine blk_drew ?_ | refine blk_alloc ?_ _)); refine blk_put (cs := #[.int .i64 t293, .int .i64 a3_1, .int .i64 a3_2, .int .i64 a3_3]) ?_ 1 _ rfl; (with_reducible repeat (first | refine blk_drewN ?_ _ | refine blk_drew ?_ | refine blk_alloc ?_ _)); refine blk_put (cs := #[.int .i64 a3_0, .int .i64 a3_1, .int .i64 a3_2, .int .i64 a3_3]) ?_ 0 _ rfl; (with_reducible repeat (first | refine blk_drewN ?_ _ | refine blk_drew ?_ | refine blk_alloc ?_ _)); exact BK292.out⟩, ⟨by repeat (first | (with_reducible first | exact HK.out | apply Kept.alloc | apply Kept.drewN | apply Kept.drew | refine Kept.setCell ?_ (.inr GW292.out) _) | exact HK.out)⟩, ⟨by repeat (first | (with_reducible first | exact HB.out | apply below_alloc | apply pw_below_drewN | apply below_drew1 | refine below_set ?_ GE292.out) | exact HB.out)⟩⟩
  case rest =>
   clear HC6
   try clear c1
   try clear c2
   try clear p2
   try clear c4
   try clear c12
   try clear c12b0
   try clear c12b1
   try clear hcz11_0
   try clear hcz11_1
   try clear hcz11_2
   try clear hcz11_3
   try clear hcz13_0
   try clear hcz13_1
   try clear hcz13_2
   try clear hcz13_3
   try clear hcz14_0
   try clear hcz14_1
   try clear hcz14_2
   try clear hcz14_3
   try clear hcz8_0
   try clear hcz8_1
   try clear hcz8_2
   try clear hcz8_3
   try clear hfz11_0
   try clear hfz11_1
   try clear hfz11_2
   try clear hfz11_3
   try clear hfz13_0
   try clear hfz13_1
   try clear hfz13_2
   try clear hfz13_3
   try clear hfz14_0
   try clear hfz14_1
   try clear hfz14_2
   try clear hfz14_3
   try clear hfz8_0
   try clear hfz8_1
   try clear hfz8_2
   try clear hfz8_3
   obtain ⟨kq, x30_5, rfl, HA, HJ5, HO_0, BK292, HK, HB⟩ := hcut
   have hl0_5 := (Kd.R_reads' HO_0.out).1
   rw [hl0_5] at HO_0
   (try simp only [hl0_5])
   (try simp only [hl0_5] at BK292)
   cases kq with
   | zero => exact absurd HA.out (by simp [redlineref07_piece.j0])
   | succ kj5 =>
    have H := HA.out
    clear HA
    simp only [redlineref07_piece.j0] at H
    by_cases c15 : x30_5 = true
    ·subst c15
     have H1 : (some t297) = some r := by rw [if_pos rfl] at H; exact H
     clear H
     have H := H1
     clear H1
     obtain rfl := Option.some.inj H
     go_wp2
     first | go_end0 | ((try simp only [Exit.inBlock, Exit.then]); refine bodyPost_ret (results_none rfl _ _ _) rfl ?_)
     exact ⟨by first | rfl | (simp [errW_none, errW_some] <;> rfl) | (simp [*, errW_none, errW_some] <;> rfl), (by first | exact (by (with_reducible repeat (first | apply Kd.R_alloc | apply Kd.R_drewN | apply Kd.R_drew)); exact HO_0.out) | (simp only [hl0_5]; exact (by (with_reducible repeat (first | apply Kd.R_alloc | apply Kd.R_drewN | apply Kd.R_drew)); exact HO_0.out))), by repeat (first | (with_reducible first | exact HB.out | apply below_alloc | apply pw_below_drewN | apply below_drew1 | refine below_set ?_ GE292.out) | exact HB.out), by repeat (first | (with_reducible first | exact HK.out | apply Kept.alloc | apply Kept.drewN | apply Kept.drew | refine Kept.setCell ?_ (.inr GW292.out) _) | exact HK.out)⟩
    ·replace c15 := Bool.eq_false_iff.mpr c15
     subst c15
     have H1 : (if 0 ≤ t293 then (if t293 ≤ t294 then (if t294 ≤ (l1.length : Int) then (if 0 ≤ t295 then (if t295 ≤ t296 then (if t296 ≤ (l2.length : Int) then ((redlineref07_Unique.f kj5 ((l1.take (t294 : Int).toNat).drop (t293 : Int).toNat) ((l2.take (t296 : Int).toNat).drop (t295 : Int).toNat)).bind fun t306 => ((redlineref07_Longest.f kj5 t306).bind fun t309 => (if (t309.length : Int) = 0 then ((redlineref07_Least.f kj5 t297 l1 l2 t293 t294 t295 t296).bind fun t312 => (some t312)) else (redlineref07_piece.l0 kj5 t297 l1 l2 t309 t293 t295 0 t293 t294 t295 t296)))) else (none)) else (none)) else (none)) else (none)) else (none)) else (none)) = some r := by rw [if_neg (show ¬ (false = true) by decide)] at H; exact H
     clear H
     have H := H1
     clear H1
     by_cases c16 : 0 ≤ t293
     ·rw [if_pos c16] at H
      have c16b0 := eq_true c16
      have c16b1 : decide (0 ≤ t293) = true := decide_eq_true c16
      clear c16
      by_cases c17 : t293 ≤ t294
      ·rw [if_pos c17] at H
       have c17b0 := eq_true c17
       have c17b1 : decide (t293 ≤ t294) = true := decide_eq_true c17
       clear c17
       by_cases c18 : t294 ≤ (l1.length : Int)
       ·rw [if_pos c18] at H
        have c18b0 := eq_true c18
        have c18b1 : decide (t294 ≤ (l1.length : Int)) = true := decide_eq_true c18
        clear c18
        obtain ⟨y298, hy298⟩ : ∃ y_ : List Int, y_ = ((l1.take (t294 : Int).toNat).drop (t293 : Int).toNat) := ⟨_, rfl⟩
        replace H : (if 0 ≤ t295 then (if t295 ≤ t296 then (if t296 ≤ (l2.length : Int) then ((redlineref07_Unique.f kj5 y298 ((l2.take (t296 : Int).toNat).drop (t295 : Int).toNat)).bind fun t306 => ((redlineref07_Longest.f kj5 t306).bind fun t309 => (if (t309.length : Int) = 0 then ((redlineref07_Least.f kj5 t297 l1 l2 t293 t294 t295 t296).bind fun t312 => (some t312)) else (redlineref07_piece.l0 kj5 t297 l1 l2 t309 t293 t295 0 t293 t294 t295 t296)))) else (none)) else (none)) else (none)) = some r := by first | (rw [hy298]; with_reducible exact H) | (have H2_ := (Option.bind_some _ _).symm.trans H; rw [hy298]; with_reducible exact H2_) | (have H2_ := (Option.bind_some _ _).symm.trans H; with_reducible exact H2_) | with_reducible exact H | (rw [hy298]; exact H) | exact H
        have Ny298 := Aside0.mk hy298
        clear hy298
        by_cases c19 : 0 ≤ t295
        ·rw [if_pos c19] at H
         have c19b0 := eq_true c19
         have c19b1 : decide (0 ≤ t295) = true := decide_eq_true c19
         clear c19
         by_cases c20 : t295 ≤ t296
         ·rw [if_pos c20] at H
          have c20b0 := eq_true c20
          have c20b1 : decide (t295 ≤ t296) = true := decide_eq_true c20
          clear c20
          by_cases c21 : t296 ≤ (l2.length : Int)
          ·rw [if_pos c21] at H
           have c21b0 := eq_true c21
           have c21b1 : decide (t296 ≤ (l2.length : Int)) = true := decide_eq_true c21
           clear c21
           obtain ⟨y302, hy302⟩ : ∃ y_ : List Int, y_ = ((l2.take (t296 : Int).toNat).drop (t295 : Int).toNat) := ⟨_, rfl⟩
           replace H : ((redlineref07_Unique.f kj5 y298 y302).bind fun t306 => ((redlineref07_Longest.f kj5 t306).bind fun t309 => (if (t309.length : Int) = 0 then ((redlineref07_Least.f kj5 t297 l1 l2 t293 t294 t295 t296).bind fun t312 => (some t312)) else (redlineref07_piece.l0 kj5 t297 l1 l2 t309 t293 t295 0 t293 t294 t295 t296)))) = some r := by first | (rw [hy302]; with_reducible exact H) | (have H2_ := (Option.bind_some _ _).symm.trans H; rw [hy302]; with_reducible exact H2_) | (have H2_ := (Option.bind_some _ _).symm.trans H; with_reducible exact H2_) | with_reducible exact H | (rw [hy302]; exact H) | exact H
           have Ny302 := Aside0.mk hy302
           clear hy302
           replace H := Option.bind_eq_some_iff.mp H
           obtain ⟨t306, A220, H⟩ := H
           replace H : ((redlineref07_Longest.f kj5 t306).bind fun t309 => (if (t309.length : Int) = 0 then ((redlineref07_Least.f kj5 t297 l1 l2 t293 t294 t295 t296).bind fun t312 => (some t312)) else (redlineref07_piece.l0 kj5 t297 l1 l2 t309 t293 t295 0 t293 t294 t295 t296))) = some r := H
           have A22 := Aside0.mk A220
           clear A220
           replace H := Option.bind_eq_some_iff.mp H
           obtain ⟨t309, A230, H⟩ := H
           replace H : (if (t309.length : Int) = 0 then ((redlineref07_Least.f kj5 t297 l1 l2 t293 t294 t295 t296).bind fun t312 => (some t312)) else (redlineref07_piece.l0 kj5 t297 l1 l2 t309 t293 t295 0 t293 t294 t295 t296)) = some r := H
           have A23 := Aside0.mk A230
           clear A230
           by_cases c24 : (t309.length : Int) = 0
           ·rw [if_pos c24] at H
            have c24b0 : ((t309.length : Int) == 0) = true := beq_iff_eq.mpr c24
            have c24b1 : ((t309.length : Int) != 0) = false := bne_eq_false_iff_eq.mpr c24
            clear c24
            replace H := Option.bind_eq_some_iff.mp H
            obtain ⟨t312, A250, H⟩ := H
            replace H : (some t312) = some r := H
            have A25 := Aside0.mk A250
            clear A250
            obtain rfl := Option.some.inj H
            try go_wp2
            have n0_ := Aside0.mk (Kd.R_drew HO_0.out)
            have n1_ := Aside0.mk (blk_drew BK292.out)
            have n2_ := Aside0.mk (Kept.drew HK.out)
            have n3_ := Aside0.mk (below_drew1 HB.out)
            clear HO_0
            clear BK292
            clear HK
            clear HB
            have HO_0 := n0_
            have BK292 := n1_
            have HK := n2_
            have HB := n3_
            clear n0_ n1_ n2_ n3_
            have q27 : (t294 : Int) ≤ ((l1.length : Int) : Int) := of_decide_eq_true (by first | (with_reducible assumption) | assumption)
            obtain ⟨i027, hi027, _, hsz27, _⟩ := info_parts info3
            have hroom27 : l1.length ≤ c1 := HC1.out
            have hC27 : Kd.C (Kd.int .i64) _ A1 l1.length l1 := (Kd.C_kept_now HR1.out HK.out)
            have ql27 : (t293 : Int) ≤ (t294 : Int) := of_decide_eq_true (by first | (with_reducible assumption) | assumption)
            have q027 : (0 : Int) ≤ (t293 : Int) := of_decide_eq_true (by first | (with_reducible assumption) | assumption)
            have hcut27 := cut_mid (P := Try.prog) 22 3 .i64 .i64 Try.underlying22 hi027 1 hsz27 A1 l1.length c1 t293 t294 q027 ql27 q27 hroom27
            have hr27 := Kd.C_mid (lo := (t293 : Int).toNat) (hi := (t294 : Int).toNat) (c := c1) hC27 (by omega) (by omega) hroom27
            obtain ⟨A27, hA27⟩ : ∃ Az_, Az_ = (if c1 = (t293 : Int).toNat then A1 else (A1 : Option Addr).map (·.add ((t293 : Int).toNat * 1))) := ⟨_, rfl⟩
            obtain ⟨c27, hc27⟩ : ∃ cz_, cz_ = c1 - (t293 : Int).toNat := ⟨_, rfl⟩
            have hy27 : y298.length = (t294 : Int).toNat - (t293 : Int).toNat := (by rw [Ny298.out, List.length_drop, List.length_take] <;> omega)
            rw [show ((l1).take (t294 : Int).toNat).drop (t293 : Int).toNat = y298 from Ny298.out.symm] at hr27
            replace hr27 : Kd.C (Kd.int .i64) _ A27 y298.length y298 := (by rw [hA27]; exact hr27)
            rw [← hy27, ← hA27, ← hc27] at hcut27
            have HR301 := Aside0.mk hr27
            have HC301 := Aside0.mk (show y298.length ≤ c27 from by rw [hy27, hc27]; exact Nat.sub_le_sub_right (Nat.le_trans (by omega) hroom27) _)
            clear hr27 hC27 hroom27 hi027 hsz27 hc27
            have KY27 := Aside0.mk hy27
            have KA27 := Aside0.mk hA27
            clear hy27 hA27
            have KL27 := Aside0.mk (show (t294 : Int).toNat ≤ l1.length from by omega)
            have KM27 := Aside0.mk (show (t293 : Int).toNat ≤ (t294 : Int).toNat from by omega)
            replace q27 := eq_true q27
            have q28 : (t296 : Int) ≤ ((l2.length : Int) : Int) := of_decide_eq_true (by first | (with_reducible assumption) | assumption)
            obtain ⟨i028, hi028, _, hsz28, _⟩ := info_parts info3
            have hroom28 : l2.length ≤ c2 := HC2.out
            have hC28 : Kd.C (Kd.int .i64) _ A2 l2.length l2 := (Kd.C_kept_now HR2.out HK.out)
            have ql28 : (t295 : Int) ≤ (t296 : Int) := of_decide_eq_true (by first | (with_reducible assumption) | assumption)
            have q028 : (0 : Int) ≤ (t295 : Int) := of_decide_eq_true (by first | (with_reducible assumption) | assumption)
            have hcut28 := cut_mid (P := Try.prog) 22 3 .i64 .i64 Try.underlying22 hi028 1 hsz28 A2 l2.length c2 t295 t296 q028 ql28 q28 hroom28
            have hr28 := Kd.C_mid (lo := (t295 : Int).toNat) (hi := (t296 : Int).toNat) (c := c2) hC28 (by omega) (by omega) hroom28
            obtain ⟨A28, hA28⟩ : ∃ A1, A1 = (if c2 = (t295 : Int).toNat then A2 else (A2 : Option Addr).map (·.add ((t295 : Int).toNat * 1))) := ⟨_, rfl⟩
            obtain ⟨c28, hc28⟩ : ∃ c1, c1 = c2 - (t295 : Int).toNat := ⟨_, rfl⟩
            have hy28 : y302.length = (t296 : Int).toNat - (t295 : Int).toNat := (by rw [Ny302.out, List.length_drop, List.length_take] <;> omega)
            rw [show ((l2).take (t296 : Int).toNat).drop (t295 : Int).toNat = y302 from Ny302.out.symm] at hr28
            replace hr28 : Kd.C (Kd.int .i64) _ A28 y302.length y302 := (by rw [hA28]; exact hr28)
            rw [← hy28, ← hA28, ← hc28] at hcut28
            have HR305 := Aside0.mk hr28
            have HC305 := Aside0.mk (show y302.length ≤ c28 from by rw [hy28, hc28]; exact Nat.sub_le_sub_right (Nat.le_trans (by omega) hroom28) _)
            clear hr28 hC28 hroom28 hi028 hsz28 hc28
            have KY28 := Aside0.mk hy28
            have KA28 := Aside0.mk hA28
            clear hy28 hA28
            have KL28 := Aside0.mk (show (t296 : Int).toNat ≤ l2.length from by omega)
            have KM28 := Aside0.mk (show (t295 : Int).toNat ≤ (t296 : Int).toNat from by omega)
            replace q28 := eq_true q28
            refine start_ (n := 15) (S := fun w' => w'.cell? ⟨gb292, 0, none⟩ = some (.int .i64 t293) ∧ w'.cell? ⟨gb292, 1, none⟩ = some (.int .i64 t294) ∧ w'.cell? ⟨gb292, 2, none⟩ = some (.int .i64 t295) ∧ w'.cell? ⟨gb292, 3, none⟩ = some (.int .i64 t296)) (ds := []) #[false, false, false, false, false, false, false, false, false, false, false, false, false, false, false] (by kernel_rfl) rfl rfl ⟨(blk_cell BK292.out 0).trans rfl, (blk_cell BK292.out 1).trans rfl, (blk_cell BK292.out 2).trans rfl, (blk_cell BK292.out 3).trans rfl⟩ (fun hHeld => ?_); refine with_tabW redlineref07_piece.tab3 redlineref07_piece.bits3 (fun HT_ HW_ => ?_)
            generalize wc.drew = w26 at HO_0 BK292 HK HB HR301 HR305 hHeld ⊢
            refine pw_ 0 31 (ar 15 1) HT_.out ?_
            refine pw_ 1 32 (ar 15 2) HT_.out ?_
            refine pw_ 3 34 #[true, true, false, true, false, false, false, false, false, false, false, false, false, false, false] HT_.out ?_
            refine pw_ 6 37 #[true, true, false, true, false, false, true, false, false, false, false, false, false, false, false] HT_.out ?_
            refine pw_ 7 38 #[true, true, false, true, false, false, true, true, false, false, false, false, false, false, false] HT_.out ?_
            refine pw_ 9 40 #[true, true, false, true, false, false, true, true, false, true, false, false, false, false, false] HT_.out ?_
            refine take_ (i := 2) (N := some 33) (v := ?_) (a' := ?_) #[true, true, true, true, false, false, true, true, false, true, false, false, false, false, false] rfl rfl (take_ofW HT_.out HW_.out (by kernel_rfl)) (fun _ _ _ h => h) (Or.inl ⟨by rfl, ?_⟩) hHeld ?_ ?_
            rotate_left
            ·rintro w' ⟨s0, s1, s2, s3⟩
             go_simp
             with_reducible rfl
            rotate_left
            ·simp only [Act.put, List.setIfInBounds_toArray, List.set_cons_zero, List.set_cons_succ, i64_w, i32_w]
             rfl
            refine take_ (i := 4) (N := some 35) (v := ?_) (a' := ?_) #[true, true, true, true, true, false, true, true, false, true, false, false, false, false, false] rfl rfl (take_ofW HT_.out HW_.out (by kernel_rfl)) (fun _ _ _ h => h) (Or.inl ⟨by rfl, ?_⟩) hHeld ?_ ?_
            rotate_left
            ·rintro w' ⟨s0, s1, s2, s3⟩
             go_simp
             with_reducible rfl
            rotate_left
            ·simp only [Act.put, List.setIfInBounds_toArray, List.set_cons_zero, List.set_cons_succ, i64_w, i32_w]
             rfl
            refine pw_ 5 36 #[true, true, true, true, true, true, true, true, false, true, false, false, false, false, false] HT_.out ?_
            refine take_ (i := 8) (N := some 39) (v := ?_) (a' := ?_) (ar 15 10) rfl rfl (take_ofW HT_.out HW_.out (by kernel_rfl)) (fun _ _ _ h => h) (Or.inl ⟨by rfl, ?_⟩) hHeld ?_ ?_
            rotate_left
            ·rintro w' ⟨s0, s1, s2, s3⟩
             go_simp
             with_reducible rfl
            rotate_left
            ·simp only [Act.put, List.setIfInBounds_toArray, List.set_cons_zero, List.set_cons_succ, i64_w, i32_w]
             rfl
            refine take_ (i := 10) (N := some 41) (v := ?_) (a' := ?_) (ar 15 11) rfl rfl (take_ofW HT_.out HW_.out (by kernel_rfl)) (fun _ _ _ h => h) (Or.inl ⟨by rfl, ?_⟩) hHeld ?_ ?_
            rotate_left
            ·rintro w' ⟨s0, s1, s2, s3⟩
             go_simp
             with_reducible rfl
            rotate_left
            ·simp only [Act.put, List.setIfInBounds_toArray, List.set_cons_zero, List.set_cons_succ, i64_w, i32_w]
             rfl
            refine pw_ 11 42 (ar 15 12) HT_.out ?_
            refine one_ (i := 12) (N := some 43) (ar 15 13) rfl rfl (one_of HT_.out (by kernel_rfl)) (by decide) (fun K hK => ?_)
            refine goes_ Try.func10 (by kernel_rfl) rfl #[.slice A27 y298.length c27, .slice A28 y302.length c28] (by rfl) rfl rfl (by (try simp only [List.map_toArray, List.map_cons, List.map_nil]); first | done | rfl | (simp only [List.length_drop, List.length_take]; rfl)) ?_
            with_reducible refine (redlineref07_Unique.calls kj5 _ _ y298 _ _ y302 t306 _ ?side1 ?side2 ?side3 ?side4 A22.out).mono ?_
            (case side1 => repeat (first | exact (by repeat (first | (with_reducible exact HR301.out) | (with_reducible refine Kd.C_alloc ?_ _) | (with_reducible refine Kd.C_drewN ?_ _) | (with_reducible refine Kd.C_drew ?_) | exact HR301.out)) | (with_reducible refine Kd.C_alloc ?_ _) | (with_reducible refine Kd.C_drewN ?_ _) | (with_reducible refine Kd.C_drew ?_)))
            (case side2 => exact HC301.out)
            (case side3 => repeat (first | exact (by repeat (first | (with_reducible exact HR305.out) | (with_reducible refine Kd.C_alloc ?_ _) | (with_reducible refine Kd.C_drewN ?_ _) | (with_reducible refine Kd.C_drew ?_) | exact HR305.out)) | (with_reducible refine Kd.C_alloc ?_ _) | (with_reducible refine Kd.C_drewN ?_ _) | (with_reducible refine Kd.C_drew ?_)))
            (case side4 => exact HC305.out)
            rintro e w29 ⟨v307, rfl, ho0, hb⟩
            refine ⟨_, rfl, ?_⟩
            have n0_ := Aside0.mk (Kd.R_below (by (with_reducible repeat (first | apply Kd.R_alloc | apply Kd.R_drewN | apply Kd.R_drew)); exact HO_0.out) hb)
            have n1_ := Aside0.mk (Kd.R_lower (Kd.R_newM (M := fun k_ => (P0_ k_ ∨ w.heap.size ≤ k_)) ho0 (by first | exact HK.out.1 | exact (show Kept w _ (fun k_ => P0_ k_) from by repeat (first | (with_reducible first | exact HK.out | apply Kept.alloc | apply Kept.drewN | apply Kept.drew | refine Kept.setCell ?_ (.inr GW292.out) _) | exact HK.out)).1) (fun k_ h_ => .inr h_)) (below_size (by repeat (first | (with_reducible first | exact HB.out | apply below_alloc | apply pw_below_drewN | apply below_drew1 | refine below_set ?_ GE292.out) | exact HB.out))))
            have n2_ := Aside0.mk (blk_below (g := gb292) (o := .cells #[.int .i64 t293, .int .i64 t294, .int .i64 t295, .int .i64 t296] 63 (0, 0)) (by (with_reducible repeat (first | refine blk_drewN ?_ _ | refine blk_drew ?_ | refine blk_alloc ?_ _)); exact BK292.out) hb)
            have n3_ := Aside0.mk (Kd.C_below (by repeat (first | (with_reducible exact HR301.out) | (with_reducible refine Kd.C_alloc ?_ _) | (with_reducible refine Kd.C_drewN ?_ _) | (with_reducible refine Kd.C_drew ?_) | exact HR301.out)) hb)
            have n4_ := Aside0.mk (Kd.C_below (by repeat (first | (with_reducible exact HR305.out) | (with_reducible refine Kd.C_alloc ?_ _) | (with_reducible refine Kd.C_drewN ?_ _) | (with_reducible refine Kd.C_drew ?_) | exact HR305.out)) hb)
            have n5_ := Aside0.mk (Kept.below (S := (fun k_ => P0_ k_)) (by repeat (first | (with_reducible first | exact HK.out | apply Kept.alloc | apply Kept.drewN | apply Kept.drew | refine Kept.setCell ?_ (.inr GW292.out) _) | exact HK.out)) hb)
            have n6_ := Aside0.mk (below_step (by repeat (first | (with_reducible first | exact HB.out | apply below_alloc | apply pw_below_drewN | apply below_drew1 | refine below_set ?_ GE292.out) | exact HB.out)) hb)
            clear HO_0
            clear BK292
            clear HR301
            clear HR305
            clear HK
            clear HB
            have HO_0 := n0_
            have HO308 := n1_
            have BK292 := n2_
            have HR301 := n3_
            have HR305 := n4_
            have HK := n5_
            have HB := n6_
            clear n0_ n1_ n2_ n3_ n4_ n5_ n6_
            (try clear hb)
            (try clear hb2)
            (try clear hk)
            (try clear hi)
            (try clear ho0)
            obtain ⟨Ao30, co30, eo30⟩ := Kd.R_slice HO308.out
            (first | subst eo30 | (injection eo30 with f1_ f2_ f3_; have f4_ := f1_.symm; have f5_ := f3_.symm; clear f1_ f2_ f3_; subst f4_; subst f5_))
            refine hK.out _ _ ⟨(blk_cell BK292.out 0).trans rfl, (blk_cell BK292.out 1).trans rfl, (blk_cell BK292.out 2).trans rfl, (blk_cell BK292.out 3).trans rfl⟩ (fun hHeld => ?_)
            clear hK K
            refine norm_ (a' := ?_) ?_ ?_
            rotate_left
            ·show Act.put _ (some 43) _ = _
             simp only [Act.put, List.setIfInBounds_toArray, List.set_cons_zero, List.set_cons_succ, i64_w, i32_w]
             rfl
            refine one_ (i := 13) (N := some 44) (ar 15 14) rfl rfl (one_of HT_.out (by kernel_rfl)) (by decide) (fun K hK => ?_)
            refine goes_ Try.func11 (by kernel_rfl) rfl #[.slice Ao30 t306.length co30] (by rfl) rfl rfl (by (try simp only [List.map_toArray, List.map_cons, List.map_nil]); first | done | rfl | (simp only [List.length_drop, List.length_take]; rfl)) ?_
            with_reducible refine (redlineref07_Longest.calls kj5 _ _ t306 t309 _ ?side1 ?side2 A23.out).mono ?_
            (case side1 => repeat (first | exact (Kd.R_reads' HO308.out).2.2 | (with_reducible refine Kd.C_alloc ?_ _) | (with_reducible refine Kd.C_drewN ?_ _) | (with_reducible refine Kd.C_drew ?_)))
            (case side2 => exact (Kd.R_reads' HO308.out).2.1)
            rintro e w31 ⟨v310, rfl, ho0, hb⟩
            refine ⟨_, rfl, ?_⟩
            have n0_ := Aside0.mk (Kd.R_below (by (with_reducible repeat (first | apply Kd.R_alloc | apply Kd.R_drewN | apply Kd.R_drew)); exact HO_0.out) hb)
            have n1_ := Aside0.mk (Kd.R_elder' (by (with_reducible repeat (first | apply Kd.R_alloc | apply Kd.R_drewN | apply Kd.R_drew)); exact HO308.out) (Kd.R_base ho0) hb)
            have n2_ := Aside0.mk (Kd.R_lower (Kd.R_new' (Kd.R_newM (M := fun k_ => (P0_ k_ ∨ w.heap.size ≤ k_)) ho0 (by first | exact HK.out.1 | exact (show Kept w _ (fun k_ => P0_ k_) from by repeat (first | (with_reducible first | exact HK.out | apply Kept.alloc | apply Kept.drewN | apply Kept.drew | refine Kept.setCell ?_ (.inr GW292.out) _) | exact HK.out)).1) (fun k_ h_ => .inr h_)) (Kd.R_lt (by (with_reducible repeat (first | apply Kd.R_alloc | apply Kd.R_drewN | apply Kd.R_drew)); exact HO308.out))) (below_size (by repeat (first | (with_reducible first | exact HB.out | apply below_alloc | apply pw_below_drewN | apply below_drew1 | refine below_set ?_ GE292.out) | exact HB.out))))
            have n3_ := Aside0.mk (blk_below (g := gb292) (o := .cells #[.int .i64 t293, .int .i64 t294, .int .i64 t295, .int .i64 t296] 63 (0, 0)) (by (with_reducible repeat (first | refine blk_drewN ?_ _ | refine blk_drew ?_ | refine blk_alloc ?_ _)); exact BK292.out) hb)
            have n4_ := Aside0.mk (Kd.C_below (by repeat (first | (with_reducible exact HR301.out) | (with_reducible refine Kd.C_alloc ?_ _) | (with_reducible refine Kd.C_drewN ?_ _) | (with_reducible refine Kd.C_drew ?_) | exact HR301.out)) hb)
            have n5_ := Aside0.mk (Kd.C_below (by repeat (first | (with_reducible exact HR305.out) | (with_reducible refine Kd.C_alloc ?_ _) | (with_reducible refine Kd.C_drewN ?_ _) | (with_reducible refine Kd.C_drew ?_) | exact HR305.out)) hb)
            have n6_ := Aside0.mk (Kept.below (S := (fun k_ => P0_ k_)) (by repeat (first | (with_reducible first | exact HK.out | apply Kept.alloc | apply Kept.drewN | apply Kept.drew | refine Kept.setCell ?_ (.inr GW292.out) _) | exact HK.out)) hb)
            have n7_ := Aside0.mk (below_step (by repeat (first | (with_reducible first | exact HB.out | apply below_alloc | apply pw_below_drewN | apply below_drew1 | refine below_set ?_ GE292.out) | exact HB.out)) hb)
            clear HO_0
            clear HO308
            clear BK292
            clear HR301
            clear HR305
            clear HK
            clear HB
            have HO_0 := n0_
            have HO308 := n1_
            have HO311 := n2_
            have BK292 := n3_
            have HR301 := n4_
            have HR305 := n5_
            have HK := n6_
            have HB := n7_
            clear n0_ n1_ n2_ n3_ n4_ n5_ n6_ n7_
            (try clear hb)
            (try clear hb2)
            (try clear hk)
            (try clear hi)
            (try clear ho0)
            refine hK.out _ _ ⟨(blk_cell BK292.out 0).trans rfl, (blk_cell BK292.out 1).trans rfl, (blk_cell BK292.out 2).trans rfl, (blk_cell BK292.out 3).trans rfl⟩ (fun hHeld => ?_)
            clear hK K
            refine norm_ (a' := ?_) ?_ ?_
            rotate_left
            ·show Act.put _ (some 44) _ = _
             simp only [Act.put, List.setIfInBounds_toArray, List.set_cons_zero, List.set_cons_succ, i64_w, i32_w]
             rfl
            refine pw_ 14 8 (ar 15 15) HT_.out ?_
            refine done_ (done_of HT_.out (by kernel_rfl)) ?_
            obtain ⟨Ao32, co32, eo32⟩ := Kd.R_slice HO311.out
            subst eo32
            have hcz33_0 : w31.cell? ⟨gb292, 0, none⟩ = some (.int .i64 t293) := (blk_cell BK292.out 0).trans rfl
            have hcz33_1 : w31.cell? ⟨gb292, 1, none⟩ = some (.int .i64 t294) := (blk_cell BK292.out 1).trans rfl
            have hcz33_2 : w31.cell? ⟨gb292, 2, none⟩ = some (.int .i64 t295) := (blk_cell BK292.out 2).trans rfl
            have hcz33_3 : w31.cell? ⟨gb292, 3, none⟩ = some (.int .i64 t296) := (blk_cell BK292.out 3).trans rfl
            have hfz33_0 := blk_frozen BK292.out 0
            have hfz33_1 := blk_frozen BK292.out 1
            have hfz33_2 := blk_frozen BK292.out 2
            have hfz33_3 := blk_frozen BK292.out 3
            try go_wp2_with (first | ((with_reducible refine gate_callee (f := 41) rfl ?_); refine goesL_ (some 52) rfl rfl Try.func41 (by kernel_rfl) rfl #[.slice Ao9 t297.length co9, .slice A1 l1.length c1, .slice A2 l2.length c2, .agg #[.int .i64 t293, .int .i64 t294, .int .i64 t295, .int .i64 t296]] rfl (by (try simp only [List.map_toArray, List.map_cons, List.map_nil]); first | done | rfl | (simp only [List.length_drop, List.length_take]; rfl)) ?_; (with_reducible refine (redlineref07_Least.calls kj5 (fun k_ => some k_ = (.slice Ao9 t297.length co9 : Value).ownBlock) (.slice Ao9 t297.length co9) t297 _ _ l1 _ _ l2 t293 t294 t295 t296 t312 w0 _ ?side1 ?side2 ?side3 ?side4 ?side5 ?side6 A25.out).mono ?_); (case side1 => repeat (first | (with_reducible first | exact HB.out | apply below_alloc | apply pw_below_drewN | apply below_drew1 | refine below_set ?_ GE292.out) | exact HB.out)); (case side2 => exact Kd.R_tight rfl HO_0.out); (case side3 => exact Kd.C_kept_call HR1.out (by repeat (first | (with_reducible first | exact HK.out | apply Kept.alloc | apply Kept.drewN | apply Kept.drew | refine Kept.setCell ?_ (.inr GW292.out) _) | exact HK.out)) (fun k_ hs_ => (fun e_ => (HO_0.out.1 k_ e_.symm)) hs_)); (case side4 => exact HC1.out); (case side5 => exact Kd.C_kept_call HR2.out (by repeat (first | (with_reducible first | exact HK.out | apply Kept.alloc | apply Kept.drewN | apply Kept.drew | refine Kept.setCell ?_ (.inr GW292.out) _) | exact HK.out)) (fun k_ hs_ => (fun e_ => (HO_0.out.1 k_ e_.symm)) hs_)); (case side6 => exact HC2.out); rintro e w34 ⟨rfl, hy0, hb, hkp⟩; refine ⟨_, rfl, ?_⟩; have n0_ := Aside0.mk (Kd.R_reok rfl hy0 (fun k_ e_ => HO_0.out.1 k_ e_)); have n1_ := Aside0.mk (blk_kept (by (with_reducible repeat (first | refine blk_drewN ?_ _ | refine blk_drew ?_ | refine blk_alloc ?_ _)); exact BK292.out) hkp (fun hs_ => (fun e_ => (Kd.R_ne HO_0.out BK292.out (by decide)) e_) hs_)); have n2_ := Aside0.mk (Kd.R_mono (ok' := fun k_ => (P0_ k_ ∨ w.heap.size ≤ k_) ∧ some k_ ≠ (.slice Ao32 t309.length co32 : Value).ownBlock) (Kd.R_keptB ((Kd.R_apart' HO308.out (Kd.R_typed HO_0.out) (by decide))) hkp (fun k_ hk_ hs_ => (hk_.2) hs_)) (fun k_ hk_ => ⟨hk_.1.1.1.1, hk_.1.1.2⟩)); have n3_ := Aside0.mk (Kd.R_mono (ok' := fun k_ => (P0_ k_ ∨ w.heap.size ≤ k_) ∧ some k_ ≠ (.slice Ao30 t306.length co30 : Value).ownBlock) (Kd.R_keptB ((Kd.R_apart' HO311.out (Kd.R_typed HO_0.out) (by decide))) hkp (fun k_ hk_ hs_ => (hk_.2) hs_)) (fun k_ hk_ => ⟨hk_.1.1.1.1, hk_.1.1.2⟩)); have n4_ := Aside0.mk (Kept.then_ (S := (fun k_ => P0_ k_)) (by repeat (first | (with_reducible first | exact HK.out | apply Kept.alloc | apply Kept.drewN | apply Kept.drew | refine Kept.setCell ?_ (.inr GW292.out) _) | exact HK.out)) hkp (fun k_ hs_ => (fun e_ => (HO_0.out.1 k_ e_.symm)) hs_)); have n5_ := Aside0.mk (hb); clear HO_0; clear BK292; clear HO308; clear HO311; clear HK; clear HB; have HO_0 := n0_; have BK292 := n1_; have HO308 := n2_; have HO311 := n3_; have HK := n4_; have HB := n5_; clear n0_ n1_ n2_ n3_ n4_ n5_; (try clear hb); (try clear hkp); (try clear hy0)))
            first | go_end0 | ((try simp only [Exit.inBlock, Exit.then]); refine bodyPost_ret (results_none rfl _ _ _) rfl ?_)
            exact ⟨by first | rfl | (simp [errW_none, errW_some] <;> rfl) | (simp [*, errW_none, errW_some] <;> rfl), (by first | exact (by (with_reducible repeat (first | apply Kd.R_alloc | apply Kd.R_drewN | apply Kd.R_drew)); exact HO_0.out) | (simp only [hl0_5]; exact (by (with_reducible repeat (first | apply Kd.R_alloc | apply Kd.R_drewN | apply Kd.R_drew)); exact HO_0.out))), by repeat (first | (with_reducible first | exact HB.out | apply below_alloc | apply pw_below_drewN | apply below_drew1 | refine below_set ?_ GE292.out) | exact HB.out), by repeat (first | (with_reducible first | exact HK.out | apply Kept.alloc | apply Kept.drewN | apply Kept.drew | refine Kept.setCell ?_ (.inr GW292.out) _) | exact HK.out)⟩
           ·rw [if_neg c24] at H
            have c24b0 : ((t309.length : Int) == 0) = false := beq_eq_false_iff_ne.mpr c24
            have c24b1 : ((t309.length : Int) != 0) = true := bne_iff_ne.mpr c24
            have c24b2 : ¬ (t309 = []) := fun h_ => c24 (by rw [h_]; rfl)
            have H' := Aside0.mk H
            clear H
            try go_wp2
            have n0_ := Aside0.mk (Kd.R_drew HO_0.out)
            have n1_ := Aside0.mk (blk_drew BK292.out)
            have n2_ := Aside0.mk (Kept.drew HK.out)
            have n3_ := Aside0.mk (below_drew1 HB.out)
            clear HO_0
            clear BK292
            clear HK
            clear HB
            have HO_0 := n0_
            have BK292 := n1_
            have HK := n2_
            have HB := n3_
            clear n0_ n1_ n2_ n3_
            have q36 : (t294 : Int) ≤ ((l1.length : Int) : Int) := of_decide_eq_true (by first | (with_reducible assumption) | assumption)
            obtain ⟨i036, hi036, _, hsz36, _⟩ := info_parts info3
            have hroom36 : l1.length ≤ c1 := HC1.out
            have hC36 : Kd.C (Kd.int .i64) _ A1 l1.length l1 := (Kd.C_kept_now HR1.out HK.out)
            have ql36 : (t293 : Int) ≤ (t294 : Int) := of_decide_eq_true (by first | (with_reducible assumption) | assumption)
            have q036 : (0 : Int) ≤ (t293 : Int) := of_decide_eq_true (by first | (with_reducible assumption) | assumption)
            have hcut36 := cut_mid (P := Try.prog) 22 3 .i64 .i64 Try.underlying22 hi036 1 hsz36 A1 l1.length c1 t293 t294 q036 ql36 q36 hroom36
            have hr36 := Kd.C_mid (lo := (t293 : Int).toNat) (hi := (t294 : Int).toNat) (c := c1) hC36 (by omega) (by omega) hroom36
            obtain ⟨A36, hA36⟩ : ∃ Az_, Az_ = (if c1 = (t293 : Int).toNat then A1 else (A1 : Option Addr).map (·.add ((t293 : Int).toNat * 1))) := ⟨_, rfl⟩
            obtain ⟨c36, hc36⟩ : ∃ cz_, cz_ = c1 - (t293 : Int).toNat := ⟨_, rfl⟩
            have hy36 : y298.length = (t294 : Int).toNat - (t293 : Int).toNat := (by rw [Ny298.out, List.length_drop, List.length_take] <;> omega)
            rw [show ((l1).take (t294 : Int).toNat).drop (t293 : Int).toNat = y298 from Ny298.out.symm] at hr36
            replace hr36 : Kd.C (Kd.int .i64) _ A36 y298.length y298 := (by rw [hA36]; exact hr36)
            rw [← hy36, ← hA36, ← hc36] at hcut36
            have HR301 := Aside0.mk hr36
            have HC301 := Aside0.mk (show y298.length ≤ c36 from by rw [hy36, hc36]; exact Nat.sub_le_sub_right (Nat.le_trans (by omega) hroom36) _)
            clear hr36 hC36 hroom36 hi036 hsz36 hc36
            have KY36 := Aside0.mk hy36
            have KA36 := Aside0.mk hA36
            clear hy36 hA36
            have KL36 := Aside0.mk (show (t294 : Int).toNat ≤ l1.length from by omega)
            have KM36 := Aside0.mk (show (t293 : Int).toNat ≤ (t294 : Int).toNat from by omega)
            replace q36 := eq_true q36
            have q37 : (t296 : Int) ≤ ((l2.length : Int) : Int) := of_decide_eq_true (by first | (with_reducible assumption) | assumption)
            obtain ⟨i037, hi037, _, hsz37, _⟩ := info_parts info3
            have hroom37 : l2.length ≤ c2 := HC2.out
            have hC37 : Kd.C (Kd.int .i64) _ A2 l2.length l2 := (Kd.C_kept_now HR2.out HK.out)
            have ql37 : (t295 : Int) ≤ (t296 : Int) := of_decide_eq_true (by first | (with_reducible assumption) | assumption)
            have q037 : (0 : Int) ≤ (t295 : Int) := of_decide_eq_true (by first | (with_reducible assumption) | assumption)
            have hcut37 := cut_mid (P := Try.prog) 22 3 .i64 .i64 Try.underlying22 hi037 1 hsz37 A2 l2.length c2 t295 t296 q037 ql37 q37 hroom37
            have hr37 := Kd.C_mid (lo := (t295 : Int).toNat) (hi := (t296 : Int).toNat) (c := c2) hC37 (by omega) (by omega) hroom37
            obtain ⟨A37, hA37⟩ : ∃ A1, A1 = (if c2 = (t295 : Int).toNat then A2 else (A2 : Option Addr).map (·.add ((t295 : Int).toNat * 1))) := ⟨_, rfl⟩
            obtain ⟨c37, hc37⟩ : ∃ c1, c1 = c2 - (t295 : Int).toNat := ⟨_, rfl⟩
            have hy37 : y302.length = (t296 : Int).toNat - (t295 : Int).toNat := (by rw [Ny302.out, List.length_drop, List.length_take] <;> omega)
            rw [show ((l2).take (t296 : Int).toNat).drop (t295 : Int).toNat = y302 from Ny302.out.symm] at hr37
            replace hr37 : Kd.C (Kd.int .i64) _ A37 y302.length y302 := (by rw [hA37]; exact hr37)
            rw [← hy37, ← hA37, ← hc37] at hcut37
            have HR305 := Aside0.mk hr37
            have HC305 := Aside0.mk (show y302.length ≤ c37 from by rw [hy37, hc37]; exact Nat.sub_le_sub_right (Nat.le_trans (by omega) hroom37) _)
            clear hr37 hC37 hroom37 hi037 hsz37 hc37
            have KY37 := Aside0.mk hy37
            have KA37 := Aside0.mk hA37
            clear hy37 hA37
            have KL37 := Aside0.mk (show (t296 : Int).toNat ≤ l2.length from by omega)
            have KM37 := Aside0.mk (show (t295 : Int).toNat ≤ (t296 : Int).toNat from by omega)
            replace q37 := eq_true q37
            refine start_ (n := 15) (S := fun w' => w'.cell? ⟨gb292, 0, none⟩ = some (.int .i64 t293) ∧ w'.cell? ⟨gb292, 1, none⟩ = some (.int .i64 t294) ∧ w'.cell? ⟨gb292, 2, none⟩ = some (.int .i64 t295) ∧ w'.cell? ⟨gb292, 3, none⟩ = some (.int .i64 t296)) (ds := []) #[false, false, false, false, false, false, false, false, false, false, false, false, false, false, false] (by kernel_rfl) rfl rfl ⟨(blk_cell BK292.out 0).trans rfl, (blk_cell BK292.out 1).trans rfl, (blk_cell BK292.out 2).trans rfl, (blk_cell BK292.out 3).trans rfl⟩ (fun hHeld => ?_); refine with_tabW redlineref07_piece.tab3 redlineref07_piece.bits3 (fun HT_ HW_ => ?_)
            generalize wc.drew = w35 at HO_0 BK292 HK HB HR301 HR305 hHeld ⊢
            refine pw_ 0 31 (ar 15 1) HT_.out ?_
            refine pw_ 1 32 (ar 15 2) HT_.out ?_
            refine pw_ 3 34 #[true, true, false, true, false, false, false, false, false, false, false, false, false, false, false] HT_.out ?_
            refine pw_ 6 37 #[true, true, false, true, false, false, true, false, false, false, false, false, false, false, false] HT_.out ?_
            refine pw_ 7 38 #[true, true, false, true, false, false, true, true, false, false, false, false, false, false, false] HT_.out ?_
            refine pw_ 9 40 #[true, true, false, true, false, false, true, true, false, true, false, false, false, false, false] HT_.out ?_
            refine take_ (i := 2) (N := some 33) (v := ?_) (a' := ?_) #[true, true, true, true, false, false, true, true, false, true, false, false, false, false, false] rfl rfl (take_ofW HT_.out HW_.out (by kernel_rfl)) (fun _ _ _ h => h) (Or.inl ⟨by rfl, ?_⟩) hHeld ?_ ?_
            rotate_left
            ·rintro w' ⟨s0, s1, s2, s3⟩
             go_simp
             with_reducible rfl
            rotate_left
            ·simp only [Act.put, List.setIfInBounds_toArray, List.set_cons_zero, List.set_cons_succ, i64_w, i32_w]
             rfl
            refine take_ (i := 4) (N := some 35) (v := ?_) (a' := ?_) #[true, true, true, true, true, false, true, true, false, true, false, false, false, false, false] rfl rfl (take_ofW HT_.out HW_.out (by kernel_rfl)) (fun _ _ _ h => h) (Or.inl ⟨by rfl, ?_⟩) hHeld ?_ ?_
            rotate_left
            ·rintro w' ⟨s0, s1, s2, s3⟩
             go_simp
             with_reducible rfl
            rotate_left
            ·simp only [Act.put, List.setIfInBounds_toArray, List.set_cons_zero, List.set_cons_succ, i64_w, i32_w]
             rfl
            refine pw_ 5 36 #[true, true, true, true, true, true, true, true, false, true, false, false, false, false, false] HT_.out ?_
            refine take_ (i := 8) (N := some 39) (v := ?_) (a' := ?_) (ar 15 10) rfl rfl (take_ofW HT_.out HW_.out (by kernel_rfl)) (fun _ _ _ h => h) (Or.inl ⟨by rfl, ?_⟩) hHeld ?_ ?_
            rotate_left
            ·rintro w' ⟨s0, s1, s2, s3⟩
             go_simp
             with_reducible rfl
            rotate_left
            ·simp only [Act.put, List.setIfInBounds_toArray, List.set_cons_zero, List.set_cons_succ, i64_w, i32_w]
             rfl
            refine take_ (i := 10) (N := some 41) (v := ?_) (a' := ?_) (ar 15 11) rfl rfl (take_ofW HT_.out HW_.out (by kernel_rfl)) (fun _ _ _ h => h) (Or.inl ⟨by rfl, ?_⟩) hHeld ?_ ?_
            rotate_left
            ·rintro w' ⟨s0, s1, s2, s3⟩
             go_simp
             with_reducible rfl
            rotate_left
            ·simp only [Act.put, List.setIfInBounds_toArray, List.set_cons_zero, List.set_cons_succ, i64_w, i32_w]
             rfl
            refine pw_ 11 42 (ar 15 12) HT_.out ?_
            refine one_ (i := 12) (N := some 43) (ar 15 13) rfl rfl (one_of HT_.out (by kernel_rfl)) (by decide) (fun K hK => ?_)
            refine goes_ Try.func10 (by kernel_rfl) rfl #[.slice A36 y298.length c36, .slice A37 y302.length c37] (by rfl) rfl rfl (by (try simp only [List.map_toArray, List.map_cons, List.map_nil]); first | done | rfl | (simp only [List.length_drop, List.length_take]; rfl)) ?_
            with_reducible refine (redlineref07_Unique.calls kj5 _ _ y298 _ _ y302 t306 _ ?side1 ?side2 ?side3 ?side4 A22.out).mono ?_
            (case side1 => repeat (first | exact (by repeat (first | (with_reducible exact HR301.out) | (with_reducible refine Kd.C_alloc ?_ _) | (with_reducible refine Kd.C_drewN ?_ _) | (with_reducible refine Kd.C_drew ?_) | exact HR301.out)) | (with_reducible refine Kd.C_alloc ?_ _) | (with_reducible refine Kd.C_drewN ?_ _) | (with_reducible refine Kd.C_drew ?_)))
            (case side2 => exact HC301.out)
            (case side3 => repeat (first | exact (by repeat (first | (with_reducible exact HR305.out) | (with_reducible refine Kd.C_alloc ?_ _) | (with_reducible refine Kd.C_drewN ?_ _) | (with_reducible refine Kd.C_drew ?_) | exact HR305.out)) | (with_reducible refine Kd.C_alloc ?_ _) | (with_reducible refine Kd.C_drewN ?_ _) | (with_reducible refine Kd.C_drew ?_)))
            (case side4 => exact HC305.out)
            rintro e w38 ⟨v307, rfl, ho0, hb⟩
            refine ⟨_, rfl, ?_⟩
            have n0_ := Aside0.mk (Kd.R_below (by (with_reducible repeat (first | apply Kd.R_alloc | apply Kd.R_drewN | apply Kd.R_drew)); exact HO_0.out) hb)
            have n1_ := Aside0.mk (Kd.R_lower (Kd.R_newM (M := fun k_ => (P0_ k_ ∨ w.heap.size ≤ k_)) ho0 (by first | exact HK.out.1 | exact (show Kept w _ (fun k_ => P0_ k_) from by repeat (first | (with_reducible first | exact HK.out | apply Kept.alloc | apply Kept.drewN | apply Kept.drew | refine Kept.setCell ?_ (.inr GW292.out) _) | exact HK.out)).1) (fun k_ h_ => .inr h_)) (below_size (by repeat (first | (with_reducible first | exact HB.out | apply below_alloc | apply pw_below_drewN | apply below_drew1 | refine below_set ?_ GE292.out) | exact HB.out))))
            have n2_ := Aside0.mk (blk_below (g := gb292) (o := .cells #[.int .i64 t293, .int .i64 t294, .int .i64 t295, .int .i64 t296] 63 (0, 0)) (by (with_reducible repeat (first | refine blk_drewN ?_ _ | refine blk_drew ?_ | refine blk_alloc ?_ _)); exact BK292.out) hb)
            have n3_ := Aside0.mk (Kd.C_below (by repeat (first | (with_reducible exact HR301.out) | (with_reducible refine Kd.C_alloc ?_ _) | (with_reducible refine Kd.C_drewN ?_ _) | (with_reducible refine Kd.C_drew ?_) | exact HR301.out)) hb)
            have n4_ := Aside0.mk (Kd.C_below (by repeat (first | (with_reducible exact HR305.out) | (with_reducible refine Kd.C_alloc ?_ _) | (with_reducible refine Kd.C_drewN ?_ _) | (with_reducible refine Kd.C_drew ?_) | exact HR305.out)) hb)
            have n5_ := Aside0.mk (Kept.below (S := (fun k_ => P0_ k_)) (by repeat (first | (with_reducible first | exact HK.out | apply Kept.alloc | apply Kept.drewN | apply Kept.drew | refine Kept.setCell ?_ (.inr GW292.out) _) | exact HK.out)) hb)
            have n6_ := Aside0.mk (below_step (by repeat (first | (with_reducible first | exact HB.out | apply below_alloc | apply pw_below_drewN | apply below_drew1 | refine below_set ?_ GE292.out) | exact HB.out)) hb)
            clear HO_0
            clear BK292
            clear HR301
            clear HR305
            clear HK
            clear HB
            have HO_0 := n0_
            have HO308 := n1_
            have BK292 := n2_
            have HR301 := n3_
            have HR305 := n4_
            have HK := n5_
            have HB := n6_
            clear n0_ n1_ n2_ n3_ n4_ n5_ n6_
            (try clear hb)
            (try clear hb2)
            (try clear hk)
            (try clear hi)
            (try clear ho0)
            obtain ⟨Ao39, co39, eo39⟩ := Kd.R_slice HO308.out
            (first | subst eo39 | (injection eo39 with f1_ f2_ f3_; have f4_ := f1_.symm; have f5_ := f3_.symm; clear f1_ f2_ f3_; subst f4_; subst f5_))
            refine hK.out _ _ ⟨(blk_cell BK292.out 0).trans rfl, (blk_cell BK292.out 1).trans rfl, (blk_cell BK292.out 2).trans rfl, (blk_cell BK292.out 3).trans rfl⟩ (fun hHeld => ?_)
            clear hK K
            refine norm_ (a' := ?_) ?_ ?_
            rotate_left
            ·show Act.put _ (some 43) _ = _
             simp only [Act.put, List.setIfInBounds_toArray, List.set_cons_zero, List.set_cons_succ, i64_w, i32_w]
             rfl
            refine one_ (i := 13) (N := some 44) (ar 15 14) rfl rfl (one_of HT_.out (by kernel_rfl)) (by decide) (fun K hK => ?_)
            refine goes_ Try.func11 (by kernel_rfl) rfl #[.slice Ao39 t306.length co39] (by rfl) rfl rfl (by (try simp only [List.map_toArray, List.map_cons, List.map_nil]); first | done | rfl | (simp only [List.length_drop, List.length_take]; rfl)) ?_
            with_reducible refine (redlineref07_Longest.calls kj5 _ _ t306 t309 _ ?side1 ?side2 A23.out).mono ?_
            (case side1 => repeat (first | exact (Kd.R_reads' HO308.out).2.2 | (with_reducible refine Kd.C_alloc ?_ _) | (with_reducible refine Kd.C_drewN ?_ _) | (with_reducible refine Kd.C_drew ?_)))
            (case side2 => exact (Kd.R_reads' HO308.out).2.1)
            rintro e w40 ⟨v310, rfl, ho0, hb⟩
            refine ⟨_, rfl, ?_⟩
            have n0_ := Aside0.mk (Kd.R_below (by (with_reducible repeat (first | apply Kd.R_alloc | apply Kd.R_drewN | apply Kd.R_drew)); exact HO_0.out) hb)
            have n1_ := Aside0.mk (Kd.R_elder' (by (with_reducible repeat (first | apply Kd.R_alloc | apply Kd.R_drewN | apply Kd.R_drew)); exact HO308.out) (Kd.R_base ho0) hb)
            have n2_ := Aside0.mk (Kd.R_lower (Kd.R_new' (Kd.R_newM (M := fun k_ => (P0_ k_ ∨ w.heap.size ≤ k_)) ho0 (by first | exact HK.out.1 | exact (show Kept w _ (fun k_ => P0_ k_) from by repeat (first | (with_reducible first | exact HK.out | apply Kept.alloc | apply Kept.drewN | apply Kept.drew | refine Kept.setCell ?_ (.inr GW292.out) _) | exact HK.out)).1) (fun k_ h_ => .inr h_)) (Kd.R_lt (by (with_reducible repeat (first | apply Kd.R_alloc | apply Kd.R_drewN | apply Kd.R_drew)); exact HO308.out))) (below_size (by repeat (first | (with_reducible first | exact HB.out | apply below_alloc | apply pw_below_drewN | apply below_drew1 | refine below_set ?_ GE292.out) | exact HB.out))))
            have n3_ := Aside0.mk (blk_below (g := gb292) (o := .cells #[.int .i64 t293, .int .i64 t294, .int .i64 t295, .int .i64 t296] 63 (0, 0)) (by (with_reducible repeat (first | refine blk_drewN ?_ _ | refine blk_drew ?_ | refine blk_alloc ?_ _)); exact BK292.out) hb)
            have n4_ := Aside0.mk (Kd.C_below (by repeat (first | (with_reducible exact HR301.out) | (with_reducible refine Kd.C_alloc ?_ _) | (with_reducible refine Kd.C_drewN ?_ _) | (with_reducible refine Kd.C_drew ?_) | exact HR301.out)) hb)
            have n5_ := Aside0.mk (Kd.C_below (by repeat (first | (with_reducible exact HR305.out) | (with_reducible refine Kd.C_alloc ?_ _) | (with_reducible refine Kd.C_drewN ?_ _) | (with_reducible refine Kd.C_drew ?_) | exact HR305.out)) hb)
            have n6_ := Aside0.mk (Kept.below (S := (fun k_ => P0_ k_)) (by repeat (first | (with_reducible first | exact HK.out | apply Kept.alloc | apply Kept.drewN | apply Kept.drew | refine Kept.setCell ?_ (.inr GW292.out) _) | exact HK.out)) hb)
            have n7_ := Aside0.mk (below_step (by repeat (first | (with_reducible first | exact HB.out | apply below_alloc | apply pw_below_drewN | apply below_drew1 | refine below_set ?_ GE292.out) | exact HB.out)) hb)
            clear HO_0
            clear HO308
            clear BK292
            clear HR301
            clear HR305
            clear HK
            clear HB
            have HO_0 := n0_
            have HO308 := n1_
            have HO311 := n2_
            have BK292 := n3_
            have HR301 := n4_
            have HR305 := n5_
            have HK := n6_
            have HB := n7_
            clear n0_ n1_ n2_ n3_ n4_ n5_ n6_ n7_
            (try clear hb)
            (try clear hb2)
            (try clear hk)
            (try clear hi)
            (try clear ho0)
            refine hK.out _ _ ⟨(blk_cell BK292.out 0).trans rfl, (blk_cell BK292.out 1).trans rfl, (blk_cell BK292.out 2).trans rfl, (blk_cell BK292.out 3).trans rfl⟩ (fun hHeld => ?_)
            clear hK K
            refine norm_ (a' := ?_) ?_ ?_
            rotate_left
            ·show Act.put _ (some 44) _ = _
             simp only [Act.put, List.setIfInBounds_toArray, List.set_cons_zero, List.set_cons_succ, i64_w, i32_w]
             rfl
            refine pw_ 14 8 (ar 15 15) HT_.out ?_
            refine done_ (done_of HT_.out (by kernel_rfl)) ?_
            obtain ⟨Ao41, co41, eo41⟩ := Kd.R_slice HO311.out
            subst eo41
            try go_wp2
            have n0_ := Aside0.mk (Kd.R_drew HO_0.out)
            have n1_ := Aside0.mk (Kd.R_drew HO308.out)
            have n2_ := Aside0.mk (Kd.R_drew HO311.out)
            have n3_ := Aside0.mk (blk_drew BK292.out)
            have n4_ := Aside0.mk (Kd.C_drew HR301.out)
            have n5_ := Aside0.mk (Kd.C_drew HR305.out)
            have n6_ := Aside0.mk (Kept.drew HK.out)
            have n7_ := Aside0.mk (below_drew1 HB.out)
            clear HO_0
            clear HO308
            clear HO311
            clear BK292
            clear HR301
            clear HR305
            clear HK
            clear HB
            have HO_0 := n0_
            have HO308 := n1_
            have HO311 := n2_
            have BK292 := n3_
            have HR301 := n4_
            have HR305 := n5_
            have HK := n6_
            have HB := n7_
            clear n0_ n1_ n2_ n3_ n4_ n5_ n6_ n7_
            refine start_ (n := 6) (S := fun w' => w'.cell? ⟨gb292, 0, none⟩ = some (.int .i64 t293) ∧ w'.cell? ⟨gb292, 1, none⟩ = some (.int .i64 t294) ∧ w'.cell? ⟨gb292, 2, none⟩ = some (.int .i64 t295) ∧ w'.cell? ⟨gb292, 3, none⟩ = some (.int .i64 t296)) (ds := []) #[false, false, false, false, false, false] (by kernel_rfl) rfl rfl ⟨(blk_cell BK292.out 0).trans rfl, (blk_cell BK292.out 1).trans rfl, (blk_cell BK292.out 2).trans rfl, (blk_cell BK292.out 3).trans rfl⟩ (fun hHeld => ?_)
            generalize w40.drew = w42 at HO_0 HO308 HO311 BK292 HR301 HR305 HK HB hHeld ⊢
            refine pure_ (i := 0) (N := some 53) (v := ?_) (a' := ?_) (ar 6 1) rfl rfl (by kernel_rfl) (fun _ _ _ h => h) (Or.inl ⟨by rfl, ?_⟩) ?_ ?_
            rotate_left
            ·intro w'
             go_simp
             with_reducible rfl
            rotate_left
            ·simp only [Act.put, List.setIfInBounds_toArray, List.set_cons_zero, List.set_cons_succ, i64_w, i32_w]
             rfl
            refine pure_ (i := 2) (N := some 55) (v := ?_) (a' := ?_) #[true, false, true, false, false, false] rfl rfl (by kernel_rfl) (fun _ _ _ h => h) (Or.inl ⟨by rfl, ?_⟩) ?_ ?_
            rotate_left
            ·intro w'
             go_simp
             with_reducible rfl
            rotate_left
            ·simp only [Act.put, List.setIfInBounds_toArray, List.set_cons_zero, List.set_cons_succ, i64_w, i32_w]
             rfl
            refine take_ (i := 1) (N := some 54) (v := ?_) (a' := ?_) (ar 6 3) rfl rfl (by kernel_rfl) (fun _ _ _ h => h) (Or.inl ⟨by rfl, ?_⟩) hHeld ?_ ?_
            rotate_left
            ·rintro w' ⟨s0, s1, s2, s3⟩
             go_simp
             with_reducible rfl
            rotate_left
            ·simp only [Act.put, List.setIfInBounds_toArray, List.set_cons_zero, List.set_cons_succ, i64_w, i32_w]
             rfl
            refine pure_ (i := 4) (N := some 9) (v := ?_) (a' := ?_) #[true, true, true, false, true, false] rfl rfl (by kernel_rfl) (fun _ _ _ h => h) (Or.inl ⟨by rfl, ?_⟩) ?_ ?_
            rotate_left
            ·intro w'
             go_simp
             with_reducible rfl
            rotate_left
            ·simp only [Act.put, List.setIfInBounds_toArray, List.set_cons_zero, List.set_cons_succ, i64_w, i32_w]
             rfl
            refine take_ (i := 3) (N := some 56) (v := ?_) (a' := ?_) (ar 6 5) rfl rfl (by kernel_rfl) (fun _ _ _ h => h) (Or.inl ⟨by rfl, ?_⟩) hHeld ?_ ?_
            rotate_left
            ·rintro w' ⟨s0, s1, s2, s3⟩
             go_simp
             with_reducible rfl
            rotate_left
            ·simp only [Act.put, List.setIfInBounds_toArray, List.set_cons_zero, List.set_cons_succ, i64_w, i32_w]
             rfl
            refine pure_ (i := 5) (N := some 10) (v := ?_) (a' := ?_) (ar 6 6) rfl rfl (by kernel_rfl) (fun _ _ _ h => h) (Or.inl ⟨by rfl, ?_⟩) ?_ ?_
            rotate_left
            ·intro w'
             go_simp
             with_reducible rfl
            rotate_left
            ·simp only [Act.put, List.setIfInBounds_toArray, List.set_cons_zero, List.set_cons_succ, i64_w, i32_w]
             rfl
            refine done_ (by kernel_rfl) ?_
            try go_wp2
            go_loopg [9, 10, 11] kj5 (fun kq v9 v10 v11 w' => ∃ (x0_2 : List Int) (x9_2 : Int) (x10_2 : Int) (x11_2 : Int), v9 = .int .i64 x9_2 ∧ v10 = .int .i64 x10_2 ∧ v11 = .int .i64 x11_2 ∧ Aside0 (redlineref07_piece.l0 kq x0_2 l1 l2 t309 x9_2 x10_2 x11_2 t293 t294 t295 t296 = some r) ∧ Aside0 (kq ≤ kj5) ∧ Aside0 (Kd.R (Kd.int .i64) 3 w' w0.heap.size (fun k_ => (P0_ k_ ∨ w.heap.size ≤ k_)) (.slice Ao9 t297.length co9) x0_2) ∧ Aside0 (Kd.R k26 26 w' w0.heap.size (fun k_ => (P0_ k_ ∨ w.heap.size ≤ k_)) (.slice Ao41 t309.length co41) t309) ∧ Aside0 (w'.heap[gb292]? = some (.cells #[.int .i64 t293, .int .i64 t294, .int .i64 t295, .int .i64 t296] 63 (0, 0))) ∧ Aside0 (Kept w w' (fun k_ => P0_ k_)) ∧ Aside0 (Below w0.heap.size w0 w'))
            case atStart => exact ⟨(t297), (t293), (t295), (0), (by first | rfl | (simp; done) | (simp [*]; done)), (by first | rfl | (simp; done) | (simp [*]; done)), (by first | rfl | (simp; done) | (simp [*]; done)), H', ⟨Nat.le_refl _⟩, ⟨by (try simp only [hl0_5]); (with_reducible repeat (first | apply Kd.R_alloc | apply Kd.R_drewN | apply Kd.R_drew)); exact HO_0.out⟩, ⟨by (try simp only [hl0_5]); (with_reducible repeat (first | apply Kd.R_alloc | apply Kd.R_drewN | apply Kd.R_drew)); exact Kd.R_mono HO311.out (fun _ hk => hk.1.1)⟩, ⟨by (try simp only [hl0_5]); (with_reducible repeat (first | refine blk_drewN ?_ _ | refine blk_drew ?_ | refine blk_alloc ?_ _)); exact BK292.out⟩, ⟨by repeat (first | (with_reducible first | exact HK.out | apply Kept.alloc | apply Kept.drewN | apply Kept.drew | refine Kept.setCell ?_ (.inr GW292.out) _) | exact HK.out)⟩, ⟨by repeat (first | (with_reducible first | exact HB.out | apply below_alloc | apply pw_below_drewN | apply below_drew1 | refine below_set ?_ GE292.out) | exact HB.out)⟩⟩
            case round =>
             clear H'
             try clear c1
             try clear c2
             try clear p2
             try clear q2
             try clear c3
             try clear q3
             try clear c4
             try clear c10
             try clear c11
             try clear c24
             try clear c24b0
             try clear c24b1
             try clear c24b2
             try clear c27
             try clear q27
             try clear c28
             try clear q28
             try clear c36
             try clear q36
             try clear c37
             try clear q37
             try clear c41
             try clear hcz33_0
             try clear hcz33_1
             try clear hcz33_2
             try clear hcz33_3
             try clear hfz33_0
             try clear hfz33_1
             try clear hfz33_2
             try clear hfz33_3
             try clear q027
             try clear q028
             try clear q036
             try clear q037
             try clear q27
             try clear q28
             try clear q36
             try clear q37
             obtain ⟨x0_2, x9_2, x10_2, x11_2, rfl, rfl, rfl, HA, HK2, HO_0, HO_8, BK292, HK, HB⟩ := hrel
             have hl0_2 := (Kd.R_reads' HO_0.out).1
             rw [hl0_2] at HO_0
             (try simp only [hl0_2])
             (try simp only [hl0_2] at BK292)
             (try simp only [hl0_2] at HO_8)
             cases gk with
             | zero => exact absurd HA.out (by simp [redlineref07_piece.l0])
             | succ k2 =>
              have H := HA.out
              clear HA
              simp only [redlineref07_piece.l0] at H
              by_cases c43 : x11_2 < (t309.length : Int)
              ·rw [if_pos c43] at H
               have c43b0 : decide (x11_2 < (t309.length : Int)) = true := decide_eq_true c43
               clear c43
               by_cases c44 : 0 ≤ x11_2
               ·rw [if_pos c44] at H
                have c44b0 : decide (0 ≤ x11_2) = true := decide_eq_true c44
                clear c44
                obtain ⟨ji45, hji45⟩ : ∃ j_ : Int, (wrap64 (t293 + ((rd_T26 t309 x11_2).f0))) = j_ := ⟨_, rfl⟩
                replace H : (if 0 ≤ (ji45) then (if (ji45) < (x0_2.length : Int) then ((redlineref07_piece.f k2 (x0_2.set ((ji45) : Int).toNat (wrap64 (t295 + ((rd_T26 t309 x11_2).f1)))) l1 l2 x9_2 (ji45) x10_2 (wrap64 (t295 + ((rd_T26 t309 x11_2).f1)))).bind fun t316 => (redlineref07_piece.l0 k2 t316 l1 l2 t309 (wrap64 ((ji45) + 1)) (wrap64 ((wrap64 (t295 + ((rd_T26 t309 x11_2).f1))) + 1)) (wrap64 (x11_2 + 1)) t293 t294 t295 t296)) else (none)) else (none)) = some r := by first | (rw [hji45] at H; exact H) | (simp only [hji45] at H ⊢; exact H)
                have hji45w : (IntKind.i64.wrap (t293 + ((rd_T26 t309 x11_2).f0))) = ji45 := (i64_w _).trans hji45
                by_cases c46 : 0 ≤ (ji45)
                ·rw [if_pos c46] at H
                 have c46b0 : decide (0 ≤ (ji45)) = true := decide_eq_true c46
                 clear c46
                 by_cases c47 : (ji45) < (x0_2.length : Int)
                 ·rw [if_pos c47] at H
                  have c47b0 : decide ((ji45) < (x0_2.length : Int)) = true := decide_eq_true c47
                  clear c47
                  obtain ⟨y315, hy315⟩ : ∃ y_ : List Int, y_ = (x0_2.set ((ji45) : Int).toNat (wrap64 (t295 + ((rd_T26 t309 x11_2).f1)))) := ⟨_, rfl⟩
                  replace H : ((redlineref07_piece.f k2 y315 l1 l2 x9_2 (ji45) x10_2 (wrap64 (t295 + ((rd_T26 t309 x11_2).f1)))).bind fun t316 => (redlineref07_piece.l0 k2 t316 l1 l2 t309 (wrap64 ((ji45) + 1)) (wrap64 ((wrap64 (t295 + ((rd_T26 t309 x11_2).f1))) + 1)) (wrap64 (x11_2 + 1)) t293 t294 t295 t296)) = some r := by first | (rw [hy315]; with_reducible exact H) | (have H2_ := (Option.bind_some _ _).symm.trans H; rw [hy315]; with_reducible exact H2_) | (have H2_ := (Option.bind_some _ _).symm.trans H; with_reducible exact H2_) | with_reducible exact H | (rw [hy315]; exact H) | exact H
                  have Ny315 := Aside0.mk hy315
                  clear hy315
                  replace H := Option.bind_eq_some_iff.mp H
                  obtain ⟨t316, A490, H⟩ := H
                  replace H : (redlineref07_piece.l0 k2 t316 l1 l2 t309 (wrap64 ((ji45) + 1)) (wrap64 ((wrap64 (t295 + ((rd_T26 t309 x11_2).f1))) + 1)) (wrap64 (x11_2 + 1)) t293 t294 t295 t296) = some r := H
                  have A49 := Aside0.mk A490
                  clear A490
                  have H' := Aside0.mk H
                  clear H
                  try go_wp2
                  have n0_ := Aside0.mk (Kd.R_drew HO_0.out)
                  have n1_ := Aside0.mk (Kd.R_drew HO_8.out)
                  have n2_ := Aside0.mk (blk_drew BK292.out)
                  have n3_ := Aside0.mk (Kept.drew HK.out)
                  have n4_ := Aside0.mk (below_drew1 HB.out)
                  clear HO_0
                  clear HO_8
                  clear BK292
                  clear HK
                  clear HB
                  have HO_0 := n0_
                  have HO_8 := n1_
                  have BK292 := n2_
                  have HK := n3_
                  have HB := n4_
                  clear n0_ n1_ n2_ n3_ n4_
                  have p313 : 0 ≤ (x11_2 : Int) := of_decide_eq_true (by first | (with_reducible assumption) | assumption)
                  have q313 : x11_2 < (t309.length : Int) := of_decide_eq_true (by first | (with_reducible assumption) | assumption)
                  obtain ⟨ad313, e313, hx313_0, hx313_1⟩ := at_T26 (Kd.R_reads' HO_8.out).2.2 x11_2 p313 q313
                  cases e313
                  replace p313 := eq_true p313
                  replace q313 := eq_true q313
                  have p314 : 0 ≤ (x11_2 : Int) := of_decide_eq_true (by first | (with_reducible assumption) | assumption)
                  have q314 : x11_2 < (t309.length : Int) := of_decide_eq_true (by first | (with_reducible assumption) | assumption)
                  obtain ⟨ad314, e314, hx314_0, hx314_1⟩ := at_T26 (Kd.R_reads' HO_8.out).2.2 x11_2 p314 q314
                  obtain rfl : ad313 = ad314 := (by injection e314)
                  replace p314 := eq_true p314
                  replace q314 := eq_true q314
                  refine start_ (n := 18) (S := fun w' => w'.cell? ⟨gb292, 0, none⟩ = some (.int .i64 t293) ∧ w'.cell? ⟨gb292, 1, none⟩ = some (.int .i64 t294) ∧ w'.cell? ⟨gb292, 2, none⟩ = some (.int .i64 t295) ∧ w'.cell? ⟨gb292, 3, none⟩ = some (.int .i64 t296) ∧ w'.cell? (ad313.add ((x11_2).toNat * 2)) = some (.int .i64 ((rd_T26 t309 x11_2).f0)) ∧ w'.cell? ⟨(ad313.add ((x11_2).toNat * 2)).block, (ad313.add ((x11_2).toNat * 2)).off + 1, none⟩ = some (.int .i64 ((rd_T26 t309 x11_2).f1)) ∧ w'.cell? (ad313.add ((x11_2).toNat * 2)) = some (.int .i64 ((rd_T26 t309 x11_2).f0)) ∧ w'.cell? ⟨(ad313.add ((x11_2).toNat * 2)).block, (ad313.add ((x11_2).toNat * 2)).off + 1, none⟩ = some (.int .i64 ((rd_T26 t309 x11_2).f1))) (ds := []) #[false, false, false, false, false, false, false, false, false, false, false, false, false, false, false, false, false, false] (by kernel_rfl) rfl rfl ⟨(blk_cell BK292.out 0).trans rfl, (blk_cell BK292.out 1).trans rfl, (blk_cell BK292.out 2).trans rfl, (blk_cell BK292.out 3).trans rfl, hx313_0, hx313_1, hx314_0, hx314_1⟩ (fun hHeld => ?_); refine with_tabW redlineref07_piece.tab10 redlineref07_piece.bits10 (fun HT_ HW_ => ?_)
                  generalize wr.drew = w50 at HO_0 HO_8 BK292 HK HB hx313_0 hx313_1 hx314_0 hx314_1 hHeld ⊢
                  refine pw_ 0 63 (ar 18 1) HT_.out ?_
                  refine pw_ 2 65 #[true, false, true, false, false, false, false, false, false, false, false, false, false, false, false, false, false, false] HT_.out ?_
                  refine pw_ 3 66 #[true, false, true, true, false, false, false, false, false, false, false, false, false, false, false, false, false, false] HT_.out ?_
                  refine pw_ 4 67 #[true, false, true, true, true, false, false, false, false, false, false, false, false, false, false, false, false, false] HT_.out ?_
                  refine pw_ 5 68 #[true, false, true, true, true, true, false, false, false, false, false, false, false, false, false, false, false, false] HT_.out ?_
                  refine pw_ 8 71 #[true, false, true, true, true, true, false, false, true, false, false, false, false, false, false, false, false, false] HT_.out ?_
                  refine pw_ 10 73 #[true, false, true, true, true, true, false, false, true, false, true, false, false, false, false, false, false, false] HT_.out ?_
                  refine pw_ 11 74 #[true, false, true, true, true, true, false, false, true, false, true, true, false, false, false, false, false, false] HT_.out ?_
                  refine pw_ 12 75 #[true, false, true, true, true, true, false, false, true, false, true, true, true, false, false, false, false, false] HT_.out ?_
                  refine pw_ 13 76 #[true, false, true, true, true, true, false, false, true, false, true, true, true, true, false, false, false, false] HT_.out ?_
                  refine take_ (i := 1) (N := some 64) (v := ?_) (a' := ?_) #[true, true, true, true, true, true, false, false, true, false, true, true, true, true, false, false, false, false] rfl rfl (take_ofW HT_.out HW_.out (by kernel_rfl)) (fun _ _ _ h => h) (Or.inl ⟨by rfl, ?_⟩) hHeld ?_ ?_
                  rotate_left
                  ·rintro w' ⟨s0, s1, s2, s3, s4, s5, s6, s7⟩
                   go_simp
                   with_reducible rfl
                  rotate_left
                  ·simp only [Act.put, List.setIfInBounds_toArray, List.set_cons_zero, List.set_cons_succ, i64_w, i32_w]
                   rfl
                  refine take_ (i := 6) (N := some 69) (v := ?_) (a' := ?_) #[true, true, true, true, true, true, true, false, true, false, true, true, true, true, false, false, false, false] rfl rfl (take_ofW HT_.out HW_.out (by kernel_rfl)) (fun _ _ _ h => h) (Or.inl ⟨by rfl, ?_⟩) hHeld ?_ ?_
                  rotate_left
                  ·rintro w' ⟨s0, s1, s2, s3, s4, s5, s6, s7⟩
                   go_simp
                   with_reducible rfl
                  rotate_left
                  ·simp only [Act.put, List.setIfInBounds_toArray, List.set_cons_zero, List.set_cons_succ, i64_w, i32_w]
                   rfl
                  refine pw_ 7 70 #[true, true, true, true, true, true, true, true, true, false, true, true, true, true, false, false, false, false] HT_.out ?_
                  refine pw_ 16 12 #[true, true, true, true, true, true, true, true, true, false, true, true, true, true, false, false, true, false] HT_.out ?_
                  refine take_ (i := 9) (N := some 72) (v := ?_) (a' := ?_) #[true, true, true, true, true, true, true, true, true, true, true, true, true, true, false, false, true, false] rfl rfl (take_ofW HT_.out HW_.out (by kernel_rfl)) (fun _ _ _ h => h) (Or.inl ⟨by rfl, ?_⟩) hHeld ?_ ?_
                  rotate_left
                  ·rintro w' ⟨s0, s1, s2, s3, s4, s5, s6, s7⟩
                   go_simp
                   with_reducible rfl
                  rotate_left
                  ·simp only [Act.put, List.setIfInBounds_toArray, List.set_cons_zero, List.set_cons_succ, i64_w, i32_w]
                   rfl
                  refine take_ (i := 14) (N := some 77) (v := ?_) (a' := ?_) #[true, true, true, true, true, true, true, true, true, true, true, true, true, true, true, false, true, false] rfl rfl (take_ofW HT_.out HW_.out (by kernel_rfl)) (fun _ _ _ h => h) (Or.inl ⟨by rfl, ?_⟩) hHeld ?_ ?_
                  rotate_left
                  ·rintro w' ⟨s0, s1, s2, s3, s4, s5, s6, s7⟩
                   go_simp
                   with_reducible rfl
                  rotate_left
                  ·simp only [Act.put, List.setIfInBounds_toArray, List.set_cons_zero, List.set_cons_succ, i64_w, i32_w]
                   rfl
                  refine pw_ 15 78 (ar 18 17) HT_.out ?_
                  refine pw_ 17 13 (ar 18 18) HT_.out ?_
                  refine done_ (done_of HT_.out (by kernel_rfl)) ?_
                  have p48 : 0 ≤ ((ji45) : Int) := of_decide_eq_true (by first | (with_reducible assumption) | assumption)
                  have q48 : ((ji45) : Int) < ((x0_2.length : Int) : Int) := of_decide_eq_true (by first | (with_reducible assumption) | assumption)
                  obtain ⟨go48, co48, eo48, gb48, gl48, cl48, HG48⟩ := Kd.R_form HO_0.out (by omega)
                  (first | cases eo48 | (injection eo48 with ea_ en_ ec_; (first | subst ea_ | (injection ea_ with ea_; subst ea_)); subst ec_; clear en_))
                  have GB48 := Aside0.mk gb48
                  have GG48 := Aside0.mk HG48
                  clear gb48 gl48 HG48
                  have HMgo48 := Aside0.mk (show (P0_ go48 ∨ w.heap.size ≤ go48) from (HO_0.out.1 _ rfl))
                  obtain ⟨hx48_0, hf48_0⟩ := Kd.R_celln 0 HO_0.out ((ji45) : Int) p48 q48
                  replace p48 := eq_true p48
                  replace q48 := eq_true q48
                  obtain ⟨hy51_, hz51_⟩ := Kd.R_celln 0 HO_0.out ((ji45) : Int) (of_decide_eq_true (by first | (with_reducible assumption) | assumption)) (of_decide_eq_true (by first | (with_reducible assumption) | assumption))
                  have HP51 := Kd.R_putg HO_0.out ((ji45) : Int) (wrap64 (t295 + ((rd_T26 t309 x11_2).f1)))
                  try go_wp2_with (first | ((with_reducible refine gate_store (t := 3) (p := 82) rfl ?_); refine store_event (t := 3) (p := 82) (v := ?vo_w52) (w1 := (w50.setCell ⟨go48, ((ji45) : Int).toNat, none⟩ (.int .i64 (wrap64 (t295 + ((rd_T26 t309 x11_2).f1)))))) ?hg ?ho ?hn ?hr ?_; (case ho => rfl); (case hg => rfl); (case hn => rfl); (case hr => first | (go_simp; done) | (go_simp; rfl)); intro w52 hw; have hg : w50.grownBy w52 (some go48) := (by rw [hw]; exact HP51.2); have hp_ : Kd.R (Kd.int .i64) 3 w52 w0.heap.size (fun k_ => (P0_ k_ ∨ w.heap.size ≤ k_)) (.slice (some ⟨go48, 0, none⟩) x0_2.length co9) y315 := (by rw [hw, Ny315.out]; exact HP51.1); clear HP51; have n0_ := Aside0.mk (hp_); have n1_ := Aside0.mk (Kd.R_over' (v := (.slice (some ⟨go48, 0, none⟩) x0_2.length co9)) (by (with_reducible repeat (first | apply Kd.R_alloc | apply Kd.R_drewN | apply Kd.R_drew)); exact HO_8.out) (Kd.R_typed HO_0.out) (by decide) hg); have n2_ := Aside0.mk (blk_grown (g := gb292) (o := .cells #[.int .i64 t293, .int .i64 t294, .int .i64 t295, .int .i64 t296] 63 (0, 0)) (by (with_reducible repeat (first | refine blk_drewN ?_ _ | refine blk_drew ?_ | refine blk_alloc ?_ _)); exact BK292.out) hg (Kd.R_ne HO_0.out BK292.out (by decide))); have n3_ := Aside0.mk ((by rw [hw]; exact below_set (HB.out) GB48.out : Below w0.heap.size w0 w52)); have n4_ := Aside0.mk (Kept.of_grown (S := (fun k_ => P0_ k_)) hg (by repeat (first | (with_reducible first | exact HK.out | apply Kept.alloc | apply Kept.drewN | apply Kept.drew | refine Kept.setCell ?_ (.inr GW292.out) _) | exact HK.out)) (fun k_ e_ => (HO_0.out.1 k_ e_))); clear HO_0; clear HO_8; clear BK292; clear HB; clear HK; have HO_0 := n0_; have HO_8 := n1_; have BK292 := n2_; have HB := n3_; have HK := n4_; clear n0_ n1_ n2_ n3_ n4_; clear hg hw hp_) | ((with_reducible refine gate_callee (f := 29) rfl ?_); refine goesL_ (some 91) rfl rfl Try.func29 (by kernel_rfl) rfl #[.slice (some ⟨go48, 0, none⟩) x0_2.length co9, .slice A1 l1.length c1, .slice A2 l2.length c2, .agg #[.int .i64 x9_2, .int .i64 ji45, .int .i64 x10_2, .int .i64 (wrap64 (t295 + ((rd_T26 t309 x11_2).f1)))]] rfl (by (try simp only [List.map_toArray, List.map_cons, List.map_nil]); first | done | (simp only [hji45]; rfl) | rfl | (simp only [List.length_drop, List.length_take]; rfl)) ?_; (with_reducible refine (ih k2 (by have := HJ5.out; have := HK2.out; omega) (fun k_ => some k_ = (.slice (some ⟨go48, 0, none⟩) x0_2.length co9 : Value).ownBlock) (.slice (some ⟨go48, 0, none⟩) x0_2.length co9) y315 _ _ l1 _ _ l2 x9_2 ji45 x10_2 (wrap64 (t295 + ((rd_T26 t309 x11_2).f1))) t316 w0 _ ?side1 ?side2 ?side3 ?side4 ?side5 ?side6 A49.out).mono ?_); (case side1 => repeat (first | (with_reducible first | exact HB.out | apply below_alloc | apply pw_below_drewN | apply below_drew1 | refine below_set ?_ GE292.out) | exact HB.out)); (case side2 => exact Kd.R_tight rfl HO_0.out); (case side3 => exact Kd.C_kept_call HR1.out (by repeat (first | (with_reducible first | exact HK.out | apply Kept.alloc | apply Kept.drewN | apply Kept.drew | refine Kept.setCell ?_ (.inr GW292.out) _) | exact HK.out)) (fun k_ hs_ => (fun e_ => (HO_0.out.1 k_ e_.symm)) hs_)); (case side4 => exact HC1.out); (case side5 => exact Kd.C_kept_call HR2.out (by repeat (first | (with_reducible first | exact HK.out | apply Kept.alloc | apply Kept.drewN | apply Kept.drew | refine Kept.setCell ?_ (.inr GW292.out) _) | exact HK.out)) (fun k_ hs_ => (fun e_ => (HO_0.out.1 k_ e_.symm)) hs_)); (case side6 => exact HC2.out); rintro e w53 ⟨rfl, hy0, hb, hkp⟩; refine ⟨_, rfl, ?_⟩; have n0_ := Aside0.mk (Kd.R_reok rfl hy0 (fun k_ e_ => HO_0.out.1 k_ e_)); have n1_ := Aside0.mk (Kd.R_mono (ok' := fun k_ => (P0_ k_ ∨ w.heap.size ≤ k_)) (Kd.R_keptB ((Kd.R_apart' HO_8.out (Kd.R_typed HO_0.out) (by decide))) hkp (fun k_ hk_ hs_ => (hk_.2) hs_)) (fun k_ hk_ => hk_.1.1)); have n2_ := Aside0.mk (blk_kept (by (with_reducible repeat (first | refine blk_drewN ?_ _ | refine blk_drew ?_ | refine blk_alloc ?_ _)); exact BK292.out) hkp (fun hs_ => (fun e_ => (Kd.R_ne HO_0.out BK292.out (by decide)) e_) hs_)); have n3_ := Aside0.mk (Kept.then_ (S := (fun k_ => P0_ k_)) (by repeat (first | (with_reducible first | exact HK.out | apply Kept.alloc | apply Kept.drewN | apply Kept.drew | refine Kept.setCell ?_ (.inr GW292.out) _) | exact HK.out)) hkp (fun k_ hs_ => (fun e_ => (HO_0.out.1 k_ e_.symm)) hs_)); have n4_ := Aside0.mk (hb); clear HO_0; clear HO_8; clear BK292; clear HK; clear HB; have HO_0 := n0_; have HO_8 := n1_; have BK292 := n2_; have HK := n3_; have HB := n4_; clear n0_ n1_ n2_ n3_ n4_; (try clear hb); (try clear hkp); (try clear hy0)))
                  (try simp only [← hl0_2])
                  go_roundg k2
                  case measure => have := HJ5.out; have := HK2.out; omega
                  case rel => exact ⟨(t316), (wrap64 ((ji45) + 1)), (wrap64 ((wrap64 (t295 + ((rd_T26 t309 x11_2).f1))) + 1)), (wrap64 (x11_2 + 1)), (by first | rfl | (simp; done) | (simp only [← hji45] <;> (first | rfl | simp)) | (simp [*]; done)), (by first | rfl | (simp; done) | (simp [*]; done)), (by first | rfl | (simp; done) | (simp [*]; done)), H', ⟨by have := HJ5.out; have := HK2.out; omega⟩, ⟨by (try simp only [hl0_5]); (try simp only [hl0_2]); (with_reducible repeat (first | apply Kd.R_alloc | apply Kd.R_drewN | apply Kd.R_drew)); exact HO_0.out⟩, ⟨by (try simp only [hl0_5]); (try simp only [hl0_2]); (with_reducible repeat (first | apply Kd.R_alloc | apply Kd.R_drewN | apply Kd.R_drew)); exact HO_8.out⟩, ⟨by (try simp only [hl0_5]); (try simp only [hl0_2]); (with_reducible repeat (first | refine blk_drewN ?_ _ | refine blk_drew ?_ | refine blk_alloc ?_ _)); exact BK292.out⟩, ⟨by repeat (first | (with_reducible first | exact HK.out | apply Kept.alloc | apply Kept.drewN | apply Kept.drew | refine Kept.setCell ?_ (.inr GW292.out) _) | exact HK.out)⟩, ⟨by repeat (first | (with_reducible first | exact HB.out | apply below_alloc | apply pw_below_drewN | apply below_drew1 | refine below_set ?_ GE292.out) | exact HB.out)⟩⟩
                 ·rw [if_neg c47] at H
                  exact absurd H (by simp)
                ·rw [if_neg c46] at H
                 exact absurd H (by simp)
               ·rw [if_neg c44] at H
                exact absurd H (by simp)
              ·rw [if_neg c43] at H
               have c43b0 : decide (x11_2 < (t309.length : Int)) = false := decide_eq_false c43
               clear c43
               replace H := Option.bind_eq_some_iff.mp H
               obtain ⟨t317, A540, H⟩ := H
               replace H : (some t317) = some r := H
               have A54 := Aside0.mk A540
               clear A540
               obtain rfl := Option.some.inj H
               have hcz55_0 : wr.cell? ⟨gb292, 0, none⟩ = some (.int .i64 t293) := (blk_cell BK292.out 0).trans rfl
               have hcz55_1 : wr.cell? ⟨gb292, 1, none⟩ = some (.int .i64 t294) := (blk_cell BK292.out 1).trans rfl
               have hcz55_2 : wr.cell? ⟨gb292, 2, none⟩ = some (.int .i64 t295) := (blk_cell BK292.out 2).trans rfl
               have hcz55_3 : wr.cell? ⟨gb292, 3, none⟩ = some (.int .i64 t296) := (blk_cell BK292.out 3).trans rfl
               have hfz55_0 := blk_frozen BK292.out 0
               have hfz55_1 := blk_frozen BK292.out 1
               have hfz55_2 := blk_frozen BK292.out 2
               have hfz55_3 := blk_frozen BK292.out 3
               go_wp2_with (first | ((with_reducible refine gate_callee (f := 29) rfl ?_); refine goesL_ (some 106) rfl rfl Try.func29 (by kernel_rfl) rfl #[.slice Ao9 x0_2.length co9, .slice A1 l1.length c1, .slice A2 l2.length c2, .agg #[.int .i64 x9_2, .int .i64 t294, .int .i64 x10_2, .int .i64 t296]] rfl (by (try simp only [List.map_toArray, List.map_cons, List.map_nil]); first | done | rfl | (simp only [List.length_drop, List.length_take]; rfl)) ?_; (with_reducible refine (ih k2 (by have := HJ5.out; have := HK2.out; omega) (fun k_ => some k_ = (.slice Ao9 x0_2.length co9 : Value).ownBlock) (.slice Ao9 x0_2.length co9) x0_2 _ _ l1 _ _ l2 x9_2 t294 x10_2 t296 t317 w0 _ ?side1 ?side2 ?side3 ?side4 ?side5 ?side6 A54.out).mono ?_); (case side1 => repeat (first | (with_reducible first | exact HB.out | apply below_alloc | apply pw_below_drewN | apply below_drew1 | refine below_set ?_ GE292.out) | exact HB.out)); (case side2 => exact Kd.R_tight rfl HO_0.out); (case side3 => exact Kd.C_kept_call HR1.out (by repeat (first | (with_reducible first | exact HK.out | apply Kept.alloc | apply Kept.drewN | apply Kept.drew | refine Kept.setCell ?_ (.inr GW292.out) _) | exact HK.out)) (fun k_ hs_ => (fun e_ => (HO_0.out.1 k_ e_.symm)) hs_)); (case side4 => exact HC1.out); (case side5 => exact Kd.C_kept_call HR2.out (by repeat (first | (with_reducible first | exact HK.out | apply Kept.alloc | apply Kept.drewN | apply Kept.drew | refine Kept.setCell ?_ (.inr GW292.out) _) | exact HK.out)) (fun k_ hs_ => (fun e_ => (HO_0.out.1 k_ e_.symm)) hs_)); (case side6 => exact HC2.out); rintro e w56 ⟨rfl, hy0, hb, hkp⟩; refine ⟨_, rfl, ?_⟩; have n0_ := Aside0.mk (Kd.R_reok rfl hy0 (fun k_ e_ => HO_0.out.1 k_ e_)); have n1_ := Aside0.mk (Kd.R_mono (ok' := fun k_ => (P0_ k_ ∨ w.heap.size ≤ k_)) (Kd.R_keptB ((Kd.R_apart' HO_8.out (Kd.R_typed HO_0.out) (by decide))) hkp (fun k_ hk_ hs_ => (hk_.2) hs_)) (fun k_ hk_ => hk_.1.1)); have n2_ := Aside0.mk (blk_kept (by (with_reducible repeat (first | refine blk_drewN ?_ _ | refine blk_drew ?_ | refine blk_alloc ?_ _)); exact BK292.out) hkp (fun hs_ => (fun e_ => (Kd.R_ne HO_0.out BK292.out (by decide)) e_) hs_)); have n3_ := Aside0.mk (Kept.then_ (S := (fun k_ => P0_ k_)) (by repeat (first | (with_reducible first | exact HK.out | apply Kept.alloc | apply Kept.drewN | apply Kept.drew | refine Kept.setCell ?_ (.inr GW292.out) _) | exact HK.out)) hkp (fun k_ hs_ => (fun e_ => (HO_0.out.1 k_ e_.symm)) hs_)); have n4_ := Aside0.mk (hb); clear HO_0; clear HO_8; clear BK292; clear HK; clear HB; have HO_0 := n0_; have HO_8 := n1_; have BK292 := n2_; have HK := n3_; have HB := n4_; clear n0_ n1_ n2_ n3_ n4_; (try clear hb); (try clear hkp); (try clear hy0)))
               first | go_end0 | ((try simp only [Exit.inBlock, Exit.then]); refine bodyPost_ret (results_none rfl _ _ _) rfl ?_)
               exact ⟨by first | rfl | (simp [errW_none, errW_some] <;> rfl) | (simp [*, errW_none, errW_some] <;> rfl), (by first | exact (by (with_reducible repeat (first | apply Kd.R_alloc | apply Kd.R_drewN | apply Kd.R_drew)); exact HO_0.out) | (simp only [hl0_5, hl0_2]; exact (by (with_reducible repeat (first | apply Kd.R_alloc | apply Kd.R_drewN | apply Kd.R_drew)); exact HO_0.out))), by repeat (first | (with_reducible first | exact HB.out | apply below_alloc | apply pw_below_drewN | apply below_drew1 | refine below_set ?_ GE292.out) | exact HB.out), by repeat (first | (with_reducible first | exact HK.out | apply Kept.alloc | apply Kept.drewN | apply Kept.drew | refine Kept.setCell ?_ (.inr GW292.out) _) | exact HK.out)⟩
          ·rw [if_neg c21] at H
           exact absurd H (by simp)
         ·rw [if_neg c20] at H
          exact absurd H (by simp)
        ·rw [if_neg c19] at H
         exact absurd H (by simp)
       ·rw [if_neg c18] at H
        exact absurd H (by simp)
      ·rw [if_neg c17] at H
       exact absurd H (by simp)
     ·rw [if_neg c16] at H
      exact absurd H (by simp)
end Go.Proofs.Ytonbplflmdpikaa.X
