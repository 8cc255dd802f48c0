-- printed by xprint.py, a program of this session's own over the kit's print
import Derived.Test.YtdcldoembdifpaaZDXx0
import Derived.Test.YtdcldoembdifpaaZDXx11
import Derived.Test.YtdcldoembdifpaaZDXx45
import Derived.Test.YtdcldoembdifpaaZDXx46
import Derived.Test.YtdcldoembdifpaaZDWA
namespace Go.Proofs.Ytdcldoembdifpaa.X
open Go.RowKit Go.Proofs.YtdcldoembdifpaaW.PrintWords Go.Proofs.YtdcldoembdifpaaW.PrintLast Go.Proofs.YtdcldoembdifpaaW.PrintMore
attribute [local go_sem] max2_int min2_int max_two min_two max_three min_three max_four min_four   -- for this text's walks alone
open Go.Proofs.YtdcldoembdifpaaW.HandWords Go.Proofs.YtdcldoembdifpaaW.HandShort
set_option linter.unusedVariables false
set_option linter.unusedSimpArgs false
/-! ### redlineref08_piece: function 51 -/
mutual
def redlineref08_piece.j0 : Nat → List Int → List Int → List Int → Bool → Int → Int → Int → Int → Option (List Int)
  | 0, _, _, _, _, _, _, _, _ => none
  | k + 1, x0, x1, x2, x29, x611000, x611001, x611002, x611003 => if x29 = true then (some x0) else (if 0 ≤ x611000 then (if x611000 ≤ x611001 then (if x611001 ≤ (x1.length : Int) then (if 0 ≤ x611002 then (if x611002 ≤ x611003 then (if x611003 ≤ (x2.length : Int) then ((redlineref08_Best.f k ((x1.take (x611001 : Int).toNat).drop (x611000 : Int).toNat) ((x2.take (x611003 : Int).toNat).drop (x611002 : Int).toNat)).bind fun bt624 => (if bt624.2.2.2.2 = true then (if bt624.2.2.2.1 > 64 then ((redlineref07_Least.f k x0 x1 x2 x611000 x611001 x611002 x611003).bind fun t630 => (some t630)) else (redlineref08_piece.l0 k x0 x1 x2 (wrap64 (x611000 + bt624.1)) (wrap64 (x611002 + bt624.2.1)) 0 x611000 x611001 x611002 x611003 bt624.1 bt624.2.1 bt624.2.2.1 bt624.2.2.2.1)) else (some x0))) else (none)) else (none)) else (none)) else (none)) else (none)) else (none))
def redlineref08_piece.l0 : Nat → List Int → List Int → List Int → Int → Int → Int → Int → Int → Int → Int → Int → Int → Int → Int → Option (List Int)
  | 0, _, _, _, _, _, _, _, _, _, _, _, _, _, _ => none
  | k + 1, x0, x1, x2, x10, x11, x12, x611000, x611001, x611002, x611003, x630000, x630001, x630002, x630003 => if x12 < x630002 then (if 0 ≤ (wrap64 (x10 + x12)) then (if (wrap64 (x10 + x12)) < (x0.length : Int) then (redlineref08_piece.l0 k (x0.set ((wrap64 (x10 + x12)) : Int).toNat (wrap64 (x11 + x12))) x1 x2 x10 x11 (wrap64 (x12 + 1)) x611000 x611001 x611002 x611003 x630000 x630001 x630002 x630003) else (none)) else (none)) else ((redlineref08_piece.f k x0 x1 x2 x611000 x10 x611002 x11).bind fun t632 => ((redlineref08_piece.f k t632 x1 x2 (wrap64 (x10 + x630002)) x611001 (wrap64 (x11 + x630002)) x611003).bind fun t633 => (some t633)))
def redlineref08_piece.f : Nat → List Int → List Int → List Int → Int → Int → Int → Int → Option (List Int)
  | 0, _, _, _, _, _, _, _ => none
  | k + 1, l0, l1, l2, a3_0, a3_1, a3_2, a3_3 => (redlineref07_Trim.f k l0 l1 l2 a3_0 a3_1 a3_2 a3_3).bind fun bt611 => (if bt611.1 = bt611.2.1 then (redlineref08_piece.j0 k bt611.2.2.2.2 l1 l2 true bt611.1 bt611.2.1 bt611.2.2.1 bt611.2.2.2.1) else (redlineref08_piece.j0 k bt611.2.2.2.2 l1 l2 (bt611.2.2.1 == bt611.2.2.2.1) bt611.1 bt611.2.1 bt611.2.2.1 bt611.2.2.2.1))
end
def redlineref08_piece.T3 : Bool × List (List Nat × List Nat) := (true, [([], []), ([], []), ([1], [1]), ([], []), ([3], [3]), ([0, 2, 4], [0, 2, 4]), ([], []), ([], []), ([7], [7]), ([], []), ([9], [9]), ([6, 8, 10], [6, 8, 10]), ([5, 11], [5, 11]), ([12], [12]), ([13], [13]), ([13], [13]), ([], []), ([16, 14, 12, 0, 1, 2, 3, 4, 5, 6, 7, 8, 9, 10, 11, 12, 13, 14, 16], [14, 16]), ([15, 17, 0, 1, 2, 3, 4, 5, 6, 7, 8, 9, 10, 11, 12, 13, 14, 15, 16, 17], [15])])
def redlineref08_piece.B3 : List Nat := [0, 0, 2, 0, 8, 31, 0, 0, 128, 0, 512, 1984, 4095, 8191, 16383, 16383, 0, 98303, 262143]
theorem redlineref08_piece.tab3 : rtab .any (opsOf Try.f51 3) = redlineref08_piece.T3 := by kernel_rfl
theorem redlineref08_piece.bits3 : waitsOk redlineref08_piece.T3.2 redlineref08_piece.B3 = true := by kernel_rfl
def redlineref08_piece.T7 : Bool × List (List Nat × List Nat) := (true, [([], []), ([0], [0]), ([], []), ([2], [2]), ([1, 3], [1, 3]), ([], []), ([5], [5]), ([], []), ([7], [7]), ([6, 8], [6, 8]), ([4, 0, 1, 2, 3, 4], [4]), ([9, 10, 0, 1, 2, 3, 4, 5, 6, 7, 8, 9, 10], [9])])
def redlineref08_piece.B7 : List Nat := [0, 1, 0, 4, 15, 0, 32, 0, 128, 480, 31, 2047]
theorem redlineref08_piece.tab7 : rtab .any (opsOf Try.f51 7) = redlineref08_piece.T7 := by kernel_rfl
theorem redlineref08_piece.bits7 : waitsOk redlineref08_piece.T7.2 redlineref08_piece.B7 = true := by kernel_rfl
set_option maxHeartbeats 8000000 in
set_option maxRecDepth 100000 in
theorem redlineref08_piece.calls (k : Nat) : ∀ (P0_ : Nat → Prop) (u9000_ : Value) (l0 : List Int) (A1 : Option Addr) (c1 : Nat) (l1 : List Int) (A2 : Option Addr) (c2 : Nat) (l2 : List Int) (a3_0 : Int) (a3_1 : Int) (a3_2 : Int) (a3_3 : Int) (r : List Int) (w0 w : World) (hB : Below w0.heap.size w0 w) (ho0 : Kd.R (Kd.int .i64) 3 w w0.heap.size P0_ u9000_ l0) (hr1 : ∀ W_, Kept w W_ (fun k_ => P0_ k_) → Kd.C (Kd.int .i64) W_ A1 l1.length l1) (hc1 : l1.length ≤ c1) (hr2 : ∀ W_, Kept w W_ (fun k_ => P0_ k_) → Kd.C (Kd.int .i64) W_ A2 l2.length l2) (hc2 : l2.length ≤ c2) (h : redlineref08_piece.f k l0 l1 l2 a3_0 a3_1 a3_2 a3_3 = some r),
    Calls Try.prog 51 #[u9000_, .slice A1 l1.length c1, .slice A2 l2.length c2, .agg #[.int .i64 a3_0, .int .i64 a3_1, .int .i64 a3_2, .int .i64 a3_3]] w fun e w' => e = .returned (.tuple #[]) ∧ Kd.R (Kd.int .i64) 3 w' w0.heap.size (fun k_ => (P0_ k_ ∨ w.heap.size ≤ k_)) u9000_ r ∧ Below w0.heap.size w0 w' ∧ Kept w w' (fun k_ => P0_ k_) := by
  induction k using Nat.strongRecOn with
  | _ k ih =>
  intro P0_ u9000_ l0 A1 c1 l1 A2 c2 l2 a3_0 a3_1 a3_2 a3_3 r w0 w hB ho0 hr1 hc1 hr2 hc2 h
  cases k with
  | zero => exact absurd h (by simp [redlineref08_piece.f])
  | succ k =>
  simp only [redlineref08_piece.f] at h
  have hu70 := Try.underlying70
  have hu30 := Try.underlying30
  have HO0 := Aside0.mk (show Kd.R (Kd.int .i64) 3 w w0.heap.size (fun k_ => (P0_ k_ ∨ w.heap.size ≤ k_)) u9000_ l0 from Kd.R_mono ho0 (fun k_ hk => (.inl hk)))
  have HR1 := Aside0.mk hr1
  have HC1 := Aside0.mk hc1
  clear hr1 hc1
  have HR2 := Aside0.mk hr2
  have HC2 := Aside0.mk hc2
  clear hr2 hc2
  have HK := Aside0.mk (Kept.refl w (fun k_ => P0_ k_))
  have HW0 := Aside0.mk hB.size
  have HB := Aside0.mk hB
  clear hB
  have H : ((redlineref07_Trim.f k l0 l1 l2 a3_0 a3_1 a3_2 a3_3).bind fun bt611 => (if bt611.1 = bt611.2.1 then (redlineref08_piece.j0 k bt611.2.2.2.2 l1 l2 true bt611.1 bt611.2.1 bt611.2.2.1 bt611.2.2.2.1) else (redlineref08_piece.j0 k bt611.2.2.2.2 l1 l2 (bt611.2.2.1 == bt611.2.2.2.1) bt611.1 bt611.2.1 bt611.2.2.1 bt611.2.2.2.1))) = some r := h
  clear h
  replace H := Option.bind_eq_some_iff.mp H
  obtain ⟨⟨t611, t612, t613, t614, t615⟩, A50, H⟩ := H
  replace H : (if t611 = t612 then (redlineref08_piece.j0 k t615 l1 l2 true t611 t612 t613 t614) else (redlineref08_piece.j0 k t615 l1 l2 (t613 == t614) t611 t612 t613 t614)) = some r := H
  have A5 := Aside0.mk A50
  clear A50
  have HC6 := Aside0.mk H
  clear H
  go_enter Try.func51, Try.ntmps51
  go_upto_region 2 with (first | ((with_reducible refine gate_dst (N := 7) rfl ?_); refine box_event ?hg (N := 7) ?hd (cs := #[.int .i64 a3_0, .int .i64 a3_1, .int .i64 a3_2, .int .i64 a3_3]) (t := 70) ?hr ?_; (case hd => rfl); (case hg => rfl); (case hr => first | (go_simp; done) | (go_simp; rfl)); intro gb610 hg w7 hbox hb; have n0_ := Aside0.mk (Kd.R_below (by (with_reducible repeat (first | apply Kd.R_alloc | apply Kd.R_drewN | apply Kd.R_drew)); exact HO0.out) hb); have n1_ := Aside0.mk (Kept.below (S := (fun k_ => P0_ k_)) (by repeat (first | (with_reducible first | exact HK.out | apply Kept.alloc | apply Kept.drewN | apply Kept.drew) | exact HK.out)) hb); have n2_ := Aside0.mk (below_step (by repeat (first | (with_reducible first | exact HB.out | apply below_alloc | apply pw_below_drewN | apply below_drew1) | exact HB.out)) hb); have n3_ := Aside0.mk (hbox); have n4_ := Aside0.mk ((by rw [hg]; exact (by first | exact HK.out.1 | exact (show Kept w _ (fun k_ => P0_ k_) from by repeat (first | (with_reducible first | exact HK.out | apply Kept.alloc | apply Kept.drewN | apply Kept.drew) | exact HK.out)).1) : w.heap.size ≤ gb610)); have n5_ := Aside0.mk ((by rw [hg]; exact (below_size (by repeat (first | (with_reducible first | exact HB.out | apply below_alloc | apply pw_below_drewN | apply below_drew1) | exact HB.out))) : w0.heap.size ≤ gb610)); clear HO0; clear HK; clear HB; have HO0 := n0_; have HK := n1_; have HB := n2_; have BK610 := n3_; have GW610 := n4_; have GE610 := n5_; clear n0_ n1_ n2_ n3_ n4_ n5_; clear hb hbox hg; have hcz8_0 : w7.cell? ⟨gb610, 0, none⟩ = some (.int .i64 a3_0) := (blk_cell BK610.out 0).trans rfl; have hcz8_1 : w7.cell? ⟨gb610, 1, none⟩ = some (.int .i64 a3_1) := (blk_cell BK610.out 1).trans rfl; have hcz8_2 : w7.cell? ⟨gb610, 2, none⟩ = some (.int .i64 a3_2) := (blk_cell BK610.out 2).trans rfl; have hcz8_3 : w7.cell? ⟨gb610, 3, none⟩ = some (.int .i64 a3_3) := (blk_cell BK610.out 3).trans rfl; have hfz8_0 := blk_frozen BK610.out 0; have hfz8_1 := blk_frozen BK610.out 1; have hfz8_2 := blk_frozen BK610.out 2; have hfz8_3 := blk_frozen BK610.out 3; obtain ⟨Ao9, co9, eo9⟩ := Kd.R_slice HO0.out; subst eo9) | ((with_reducible refine gate_callee (f := 48) rfl ?_); refine goesL_ (some 17) rfl rfl Try.func48 (by kernel_rfl) rfl #[.slice Ao9 l0.length co9, .slice A1 l1.length c1, .slice A2 l2.length c2, .agg #[.int .i64 a3_0, .int .i64 a3_1, .int .i64 a3_2, .int .i64 a3_3]] rfl (by (try simp only [List.map_toArray, List.map_cons, List.map_nil]); first | done | rfl | (simp only [List.length_drop, List.length_take]; rfl)) ?_; (with_reducible refine (redlineref07_Trim.calls k (fun k_ => some k_ = (.slice Ao9 l0.length co9 : Value).ownBlock) (.slice Ao9 l0.length co9) l0 _ _ l1 _ _ l2 a3_0 a3_1 a3_2 a3_3 t611 t612 t613 t614 t615 w0 _ ?side1 ?side2 ?side3 ?side4 ?side5 ?side6 A5.out).mono ?_); (case side1 => repeat (first | (with_reducible first | exact HB.out | apply below_alloc | apply pw_below_drewN | apply below_drew1 | refine below_set ?_ GE610.out) | exact HB.out)); (case side2 => exact Kd.R_tight rfl HO0.out); (case side3 => exact Kd.C_kept_call HR1.out (by repeat (first | (with_reducible first | exact HK.out | apply Kept.alloc | apply Kept.drewN | apply Kept.drew | refine Kept.setCell ?_ (.inr GW610.out) _) | exact HK.out)) (fun k_ hs_ => (fun e_ => (HO0.out.1 k_ e_.symm)) hs_)); (case side4 => exact HC1.out); (case side5 => exact Kd.C_kept_call HR2.out (by repeat (first | (with_reducible first | exact HK.out | apply Kept.alloc | apply Kept.drewN | apply Kept.drew | refine Kept.setCell ?_ (.inr GW610.out) _) | exact HK.out)) (fun k_ hs_ => (fun e_ => (HO0.out.1 k_ e_.symm)) hs_)); (case side6 => exact HC2.out); rintro e w10 ⟨rfl, hy0, hb, hkp⟩; refine ⟨_, rfl, ?_⟩; have n0_ := Aside0.mk (Kd.R_reok rfl hy0 (fun k_ e_ => HO0.out.1 k_ e_)); have n1_ := Aside0.mk (blk_kept (by (with_reducible repeat (first | refine blk_drewN ?_ _ | refine blk_drew ?_ | refine blk_alloc ?_ _)); exact BK610.out) hkp (fun hs_ => (fun e_ => (Kd.R_ne HO0.out BK610.out (by decide)) e_) hs_)); have n2_ := Aside0.mk (Kept.then_ (S := (fun k_ => P0_ k_)) (by repeat (first | (with_reducible first | exact HK.out | apply Kept.alloc | apply Kept.drewN | apply Kept.drew | refine Kept.setCell ?_ (.inr GW610.out) _) | exact HK.out)) hkp (fun k_ hs_ => (fun e_ => (HO0.out.1 k_ e_.symm)) hs_)); have n3_ := Aside0.mk (hb); clear HO0; clear BK610; clear HK; clear HB; have HO0 := n0_; have BK610 := n1_; have HK := n2_; have HB := n3_; clear n0_ n1_ n2_ n3_; (try clear hb); (try clear hkp); (try clear hy0); have hcz11_0 : w10.cell? ⟨gb610, 0, none⟩ = some (.int .i64 a3_0) := (blk_cell BK610.out 0).trans rfl; have hcz11_1 : w10.cell? ⟨gb610, 1, none⟩ = some (.int .i64 a3_1) := (blk_cell BK610.out 1).trans rfl; have hcz11_2 : w10.cell? ⟨gb610, 2, none⟩ = some (.int .i64 a3_2) := (blk_cell BK610.out 2).trans rfl; have hcz11_3 : w10.cell? ⟨gb610, 3, none⟩ = some (.int .i64 a3_3) := (blk_cell BK610.out 3).trans rfl; have hfz11_0 := blk_frozen BK610.out 0; have hfz11_1 := blk_frozen BK610.out 1; have hfz11_2 := blk_frozen BK610.out 2; have hfz11_3 := blk_frozen BK610.out 3))
  (try simp only [Act.put, List.setIfInBounds_toArray, List.set_cons_zero, List.set_cons_succ])
  go_cut [29] (fun v29 wc => ∃ (kq : Nat) (x29_5 : Bool), v29 = .bool x29_5 ∧ Aside0 (redlineref08_piece.j0 kq t615 l1 l2 x29_5 t611 t612 t613 t614 = some r) ∧ Aside0 (kq ≤ k) ∧ Aside0 (Kd.R (Kd.int .i64) 3 wc w0.heap.size (fun k_ => (P0_ k_ ∨ w.heap.size ≤ k_)) (.slice Ao9 l0.length co9) t615) ∧ Aside0 (wc.heap[gb610]? = some (.cells #[.int .i64 t611, .int .i64 t612, .int .i64 t613, .int .i64 t614] 70 (0, 0))) ∧ Aside0 (Kept w wc (fun k_ => P0_ k_)) ∧ Aside0 (Below w0.heap.size w0 wc))
  case first =>
   have H := HC6.out
   clear HC6
   by_cases c12 : t611 = t612
   ·rw [if_pos c12] at H
    have c12b0 : (t611 == t612) = true := beq_iff_eq.mpr c12
    have c12b1 : (t611 != t612) = false := bne_eq_false_iff_eq.mpr c12
    clear c12
    (first | rw [c12b0] | rw [c12b1] | (simp only [i64_w, i32_w]; rw [c12b0]) | skip)
    have H' := Aside0.mk H
    clear H
    have hcz13_0 : w10.cell? ⟨gb610, 0, none⟩ = some (.int .i64 a3_0) := (blk_cell BK610.out 0).trans rfl
    have hcz13_1 : w10.cell? ⟨gb610, 1, none⟩ = some (.int .i64 a3_1) := (blk_cell BK610.out 1).trans rfl
    have hcz13_2 : w10.cell? ⟨gb610, 2, none⟩ = some (.int .i64 a3_2) := (blk_cell BK610.out 2).trans rfl
    have hcz13_3 : w10.cell? ⟨gb610, 3, none⟩ = some (.int .i64 a3_3) := (blk_cell BK610.out 3).trans rfl
    have hfz13_0 := blk_frozen BK610.out 0
    have hfz13_1 := blk_frozen BK610.out 1
    have hfz13_2 := blk_frozen BK610.out 2
    have hfz13_3 := blk_frozen BK610.out 3
    go_wp2
    go_meet
    case rel => exact ⟨_, (true), (by first | rfl | (simp; done) | (simp [*]; done)), H', ⟨by first | omega | exact Nat.le_refl _⟩, ⟨by (with_reducible repeat (first | apply Kd.R_alloc | apply Kd.R_drewN | apply Kd.R_drew)); exact Kd.R_mono (Kd.R_far (p := ⟨gb610, 3, none⟩) (Kd.R_far (p := ⟨gb610, 2, none⟩) (Kd.R_far (p := ⟨gb610, 1, none⟩) (Kd.R_far (p := ⟨gb610, 0, none⟩) (Kd.R_types HO0.out BK610.out (by decide)) (fun _ hk => hk.2) (.int .i64 t611)) (fun _ hk => hk.2) (.int .i64 t612)) (fun _ hk => hk.2) (.int .i64 t613)) (fun _ hk => hk.2) (.int .i64 t614)) (fun _ hk => hk.1)⟩, ⟨by (with_reducible repeat (first | refine blk_drewN ?_ _ | refine blk_drew ?_ | refine blk_alloc ?_ _)); refine blk_put (cs := #[.int .i64 t611, .int .i64 t612, .int .i64 t613, .int .i64 a3_3]) ?_ 3 _ rfl; (with_reducible repeat (first | refine blk_drewN ?_ _ | refine blk_drew ?_ | refine blk_alloc ?_ _)); refine blk_put (cs := #[.int .i64 t611, .int .i64 t612, .int .i64 a3_2, .int .i64 a3_3]) ?_ 2 _ rfl; (with_reducible repeat (first | refine blk_drewN ?_ _ | refine blk_drew ?_ | refine blk_alloc ?_ _)); refine blk_put (cs := #[.int .i64 t611, .int .i64 a3_1, .int .i64 a3_2, .int .i64 a3_3]) ?_ 1 _ rfl; (with_reducible repeat (first | refine blk_drewN ?_ _ | refine blk_drew ?_ | refine blk_alloc ?_ _)); refine blk_put (cs := #[.int .i64 a3_0, .int .i64 a3_1, .int .i64 a3_2, .int .i64 a3_3]) ?_ 0 _ rfl; (with_reducible repeat (first | refine blk_drewN ?_ _ | refine blk_drew ?_ | refine blk_alloc ?_ _)); exact BK610.out⟩, ⟨by repeat (first | (with_reducible first | exact HK.out | apply Kept.alloc | apply Kept.drewN | apply Kept.drew | refine Kept.setCell ?_ (.inr GW610.out) _) | exact HK.out)⟩, ⟨by repeat (first | (with_reducible first | exact HB.out | apply below_alloc | apply pw_below_drewN | apply below_drew1 | refine below_set ?_ GE610.out) | exact HB.out)⟩⟩
   ·rw [if_neg c12] at H
    have c12b0 : (t611 == t612) = false := beq_eq_false_iff_ne.mpr c12
    have c12b1 : (t611 != t612) = true := bne_iff_ne.mpr c12
    (first | rw [c12b0] | rw [c12b1] | (simp only [i64_w, i32_w]; rw [c12b0]) | skip)
    have H' := Aside0.mk H
    clear H
    have hcz14_0 : w10.cell? ⟨gb610, 0, none⟩ = some (.int .i64 a3_0) := (blk_cell BK610.out 0).trans rfl
    have hcz14_1 : w10.cell? ⟨gb610, 1, none⟩ = some (.int .i64 a3_1) := (blk_cell BK610.out 1).trans rfl
    have hcz14_2 : w10.cell? ⟨gb610, 2, none⟩ = some (.int .i64 a3_2) := (blk_cell BK610.out 2).trans rfl
    have hcz14_3 : w10.cell? ⟨gb610, 3, none⟩ = some (.int .i64 a3_3) := (blk_cell BK610.out 3).trans rfl
    have hfz14_0 := blk_frozen BK610.out 0
    have hfz14_1 := blk_frozen BK610.out 1
    have hfz14_2 := blk_frozen BK610.out 2
    have hfz14_3 := blk_frozen BK610.out 3
    go_wp2
    go_meet
    case rel => exact ⟨_, ((t613 == t614)), (by first | rfl | (simp; done) | (simp [*]; done)), H', ⟨by first | omega | exact Nat.le_refl _⟩, ⟨by (with_reducible repeat (first | apply Kd.R_alloc | apply Kd.R_drewN | apply Kd.R_drew)); exact Kd.R_mono (Kd.R_far (p := ⟨gb610, 3, none⟩) (Kd.R_far (p := ⟨gb610, 2, none⟩) (Kd.R_far (p := ⟨gb610, 1, none⟩) (Kd.R_far (p := ⟨gb610, 0, none⟩) (Kd.R_types HO0.out BK610.out (by decide)) (fun _ hk => hk.2) (.int .i64 t611)) (fun _ hk => hk.2) (.int .i64 t612)) (fun _ hk => hk.2) (.int .i64 t613)) (fun _ hk => hk.2) (.int .i64 t614)) (fun _ hk => hk.1)⟩, ⟨by (with_reducible repeat (first | refine blk_drewN ?_ _ | refine blk_drew ?_ | refine blk_alloc ?_ _)); refine blk_put (cs := #[.int .i64 t611, .int .i64 t612, .int .i64 t613, .int .i64 a3_3]) ?_ 3 _ rfl; (with_reducible repeat (first | refine blk_drewN ?_ _ | refine blk_drew ?_ | refine blk_alloc ?_ _)); refine blk_put (cs := #[.int .i64 t611, .int .i64 t612, .int .i64 a3_2, .int .i64 a3_3]) ?_ 2 _ rfl; (with_reducible repeat (first | refine blk_drewN ?_ _ | refine blk_drew ?_ | refine blk_alloc ?_ _)); refine blk_put (cs := #[.int .i64 t611, .int .i64 a3_1, .int .i64 a3_2, .int .i64 a3_3]) ?_ 1 _ rfl; (with_reducible repeat (first | refine blk_drewN ?_ _ | refine blk_drew ?_ | refine blk_alloc ?_ _)); refine blk_put (cs := #[.int .i64 a3_0, .int .i64 a3_1, .int .i64 a3_2, .int .i64 a3_3]) ?_ 0 _ rfl; (with_reducible repeat (first | refine blk_drewN ?_ _ | refine blk_drew ?_ | refine blk_alloc ?_ _)); exact BK610.out⟩, ⟨by repeat (first | (with_reducible first | exact HK.out | apply Kept.alloc | apply Kept.drewN | apply Kept.drew | refine Kept.setCell ?_ (.inr GW610.out) _) | exact HK.out)⟩, ⟨by repeat (first | (with_reducible first | exact HB.out | apply below_alloc | apply pw_below_drewN | apply below_drew1 | refine below_set ?_ GE610.out) | exact HB.out)⟩⟩
  case rest =>
   clear HC6
   try clear c1
   try clear c2
   try clear p2
   try clear c4
   try clear c5
   try clear c12
   try clear c12b0
   try clear c12b1
   try clear hcz11_0
   try clear hcz11_1
   try clear hcz11_2
   try clear hcz11_3
   try clear hcz13_0
   try clear hcz13_1
   try clear hcz13_2
   try clear hcz13_3
   try clear hcz14_0
   try clear hcz14_1
   try clear hcz14_2
   try clear hcz14_3
   try clear hcz8_0
   try clear hcz8_1
   try clear hcz8_2
   try clear hcz8_3
   try clear hfz11_0
   try clear hfz11_1
   try clear hfz11_2
   try clear hfz11_3
   try clear hfz13_0
   try clear hfz13_1
   try clear hfz13_2
   try clear hfz13_3
   try clear hfz14_0
   try clear hfz14_1
   try clear hfz14_2
   try clear hfz14_3
   try clear hfz8_0
   try clear hfz8_1
   try clear hfz8_2
   try clear hfz8_3
   obtain ⟨kq, x29_5, rfl, HA, HJ5, HO_0, BK610, HK, HB⟩ := hcut
   have hl0_5 := (Kd.R_reads' HO_0.out).1
   rw [hl0_5] at HO_0
   (try simp only [hl0_5])
   (try simp only [hl0_5] at BK610)
   cases kq with
   | zero => exact absurd HA.out (by simp [redlineref08_piece.j0])
   | succ kj5 =>
    have H := HA.out
    clear HA
    simp only [redlineref08_piece.j0] at H
    by_cases c15 : x29_5 = true
    ·subst c15
     have H1 : (some t615) = some r := by rw [if_pos rfl] at H; exact H
     clear H
     have H := H1
     clear H1
     obtain rfl := Option.some.inj H
     go_wp2
     first | go_end0 | ((try simp only [Exit.inBlock, Exit.then]); refine bodyPost_ret (results_none rfl _ _ _) rfl ?_)
     exact ⟨by first | rfl | (simp [errW_none, errW_some] <;> rfl) | (simp [*, errW_none, errW_some] <;> rfl), (by first | exact (by (with_reducible repeat (first | apply Kd.R_alloc | apply Kd.R_drewN | apply Kd.R_drew)); exact HO_0.out) | (simp only [hl0_5]; exact (by (with_reducible repeat (first | apply Kd.R_alloc | apply Kd.R_drewN | apply Kd.R_drew)); exact HO_0.out))), by repeat (first | (with_reducible first | exact HB.out | apply below_alloc | apply pw_below_drewN | apply below_drew1 | refine below_set ?_ GE610.out) | exact HB.out), by repeat (first | (with_reducible first | exact HK.out | apply Kept.alloc | apply Kept.drewN | apply Kept.drew | refine Kept.setCell ?_ (.inr GW610.out) _) | exact HK.out)⟩
    ·replace c15 := Bool.eq_false_iff.mpr c15
     subst c15
     have H1 : (if 0 ≤ t611 then (if t611 ≤ t612 then (if t612 ≤ (l1.length : Int) then (if 0 ≤ t613 then (if t613 ≤ t614 then (if t614 ≤ (l2.length : Int) then ((redlineref08_Best.f kj5 ((l1.take (t612 : Int).toNat).drop (t611 : Int).toNat) ((l2.take (t614 : Int).toNat).drop (t613 : Int).toNat)).bind fun bt624 => (if bt624.2.2.2.2 = true then (if bt624.2.2.2.1 > 64 then ((redlineref07_Least.f kj5 t615 l1 l2 t611 t612 t613 t614).bind fun t630 => (some t630)) else (redlineref08_piece.l0 kj5 t615 l1 l2 (wrap64 (t611 + bt624.1)) (wrap64 (t613 + bt624.2.1)) 0 t611 t612 t613 t614 bt624.1 bt624.2.1 bt624.2.2.1 bt624.2.2.2.1)) else (some t615))) else (none)) else (none)) else (none)) else (none)) else (none)) else (none)) = some r := by rw [if_neg (show ¬ (false = true) by decide)] at H; exact H
     clear H
     have H := H1
     clear H1
     by_cases c16 : 0 ≤ t611
     ·rw [if_pos c16] at H
      have c16b0 := eq_true c16
      have c16b1 : decide (0 ≤ t611) = true := decide_eq_true c16
      clear c16
      by_cases c17 : t611 ≤ t612
      ·rw [if_pos c17] at H
       have c17b0 := eq_true c17
       have c17b1 : decide (t611 ≤ t612) = true := decide_eq_true c17
       clear c17
       by_cases c18 : t612 ≤ (l1.length : Int)
       ·rw [if_pos c18] at H
        have c18b0 := eq_true c18
        have c18b1 : decide (t612 ≤ (l1.length : Int)) = true := decide_eq_true c18
        clear c18
        obtain ⟨y616, hy616⟩ : ∃ y_ : List Int, y_ = ((l1.take (t612 : Int).toNat).drop (t611 : Int).toNat) := ⟨_, rfl⟩
        replace H : (if 0 ≤ t613 then (if t613 ≤ t614 then (if t614 ≤ (l2.length : Int) then ((redlineref08_Best.f kj5 y616 ((l2.take (t614 : Int).toNat).drop (t613 : Int).toNat)).bind fun bt624 => (if bt624.2.2.2.2 = true then (if bt624.2.2.2.1 > 64 then ((redlineref07_Least.f kj5 t615 l1 l2 t611 t612 t613 t614).bind fun t630 => (some t630)) else (redlineref08_piece.l0 kj5 t615 l1 l2 (wrap64 (t611 + bt624.1)) (wrap64 (t613 + bt624.2.1)) 0 t611 t612 t613 t614 bt624.1 bt624.2.1 bt624.2.2.1 bt624.2.2.2.1)) else (some t615))) else (none)) else (none)) else (none)) = some r := by first | (rw [hy616]; with_reducible exact H) | (have H2_ := (Option.bind_some _ _).symm.trans H; rw [hy616]; with_reducible exact H2_) | (have H2_ := (Option.bind_some _ _).symm.trans H; with_reducible exact H2_) | with_reducible exact H | (rw [hy616]; exact H) | exact H
        have Ny616 := Aside0.mk hy616
        clear hy616
        by_cases c19 : 0 ≤ t613
        ·rw [if_pos c19] at H
         have c19b0 := eq_true c19
         have c19b1 : decide (0 ≤ t613) = true := decide_eq_true c19
         clear c19
         by_cases c20 : t613 ≤ t614
         ·rw [if_pos c20] at H
          have c20b0 := eq_true c20
          have c20b1 : decide (t613 ≤ t614) = true := decide_eq_true c20
          clear c20
          by_cases c21 : t614 ≤ (l2.length : Int)
          ·rw [if_pos c21] at H
           have c21b0 := eq_true c21
           have c21b1 : decide (t614 ≤ (l2.length : Int)) = true := decide_eq_true c21
           clear c21
           obtain ⟨y620, hy620⟩ : ∃ y_ : List Int, y_ = ((l2.take (t614 : Int).toNat).drop (t613 : Int).toNat) := ⟨_, rfl⟩
           replace H : ((redlineref08_Best.f kj5 y616 y620).bind fun bt624 => (if bt624.2.2.2.2 = true then (if bt624.2.2.2.1 > 64 then ((redlineref07_Least.f kj5 t615 l1 l2 t611 t612 t613 t614).bind fun t630 => (some t630)) else (redlineref08_piece.l0 kj5 t615 l1 l2 (wrap64 (t611 + bt624.1)) (wrap64 (t613 + bt624.2.1)) 0 t611 t612 t613 t614 bt624.1 bt624.2.1 bt624.2.2.1 bt624.2.2.2.1)) else (some t615))) = some r := by first | (rw [hy620]; with_reducible exact H) | (have H2_ := (Option.bind_some _ _).symm.trans H; rw [hy620]; with_reducible exact H2_) | (have H2_ := (Option.bind_some _ _).symm.trans H; with_reducible exact H2_) | with_reducible exact H | (rw [hy620]; exact H) | exact H
           have Ny620 := Aside0.mk hy620
           clear hy620
           replace H := Option.bind_eq_some_iff.mp H
           obtain ⟨⟨t624, t625, t626, t627, t628⟩, A220, H⟩ := H
           replace H : (if t628 = true then (if t627 > 64 then ((redlineref07_Least.f kj5 t615 l1 l2 t611 t612 t613 t614).bind fun t630 => (some t630)) else (redlineref08_piece.l0 kj5 t615 l1 l2 (wrap64 (t611 + t624)) (wrap64 (t613 + t625)) 0 t611 t612 t613 t614 t624 t625 t626 t627)) else (some t615)) = some r := H
           have A22 := Aside0.mk A220
           clear A220
           by_cases c23 : t628 = true
           ·subst c23
            have H1 : (if t627 > 64 then ((redlineref07_Least.f kj5 t615 l1 l2 t611 t612 t613 t614).bind fun t630 => (some t630)) else (redlineref08_piece.l0 kj5 t615 l1 l2 (wrap64 (t611 + t624)) (wrap64 (t613 + t625)) 0 t611 t612 t613 t614 t624 t625 t626 t627)) = some r := by rw [if_pos rfl] at H; exact H
            clear H
            have H := H1
            clear H1
            by_cases c24 : t627 > 64
            ·rw [if_pos c24] at H
             have c24b0 : decide (64 < t627) = true := decide_eq_true c24
             clear c24
             replace H := Option.bind_eq_some_iff.mp H
             obtain ⟨t630, A250, H⟩ := H
             replace H : (some t630) = some r := H
             have A25 := Aside0.mk A250
             clear A250
             obtain rfl := Option.some.inj H
             try go_wp2
             have n0_ := Aside0.mk (Kd.R_drew HO_0.out)
             have n1_ := Aside0.mk (blk_drew BK610.out)
             have n2_ := Aside0.mk (Kept.drew HK.out)
             have n3_ := Aside0.mk (below_drew1 HB.out)
             clear HO_0
             clear BK610
             clear HK
             clear HB
             have HO_0 := n0_
             have BK610 := n1_
             have HK := n2_
             have HB := n3_
             clear n0_ n1_ n2_ n3_
             have q27 : (t612 : Int) ≤ ((l1.length : Int) : Int) := of_decide_eq_true (by first | (with_reducible assumption) | assumption)
             obtain ⟨i027, hi027, _, hsz27, _⟩ := info_parts info3
             have hroom27 : l1.length ≤ c1 := HC1.out
             have hC27 : Kd.C (Kd.int .i64) _ A1 l1.length l1 := (Kd.C_kept_now HR1.out HK.out)
             have ql27 : (t611 : Int) ≤ (t612 : Int) := of_decide_eq_true (by first | (with_reducible assumption) | assumption)
             have q027 : (0 : Int) ≤ (t611 : Int) := of_decide_eq_true (by first | (with_reducible assumption) | assumption)
             have hcut27 := cut_mid (P := Try.prog) 22 3 .i64 .i64 Try.underlying22 hi027 1 hsz27 A1 l1.length c1 t611 t612 q027 ql27 q27 hroom27
             have hr27 := Kd.C_mid (lo := (t611 : Int).toNat) (hi := (t612 : Int).toNat) (c := c1) hC27 (by omega) (by omega) hroom27
             obtain ⟨A27, hA27⟩ : ∃ Az_, Az_ = (if c1 = (t611 : Int).toNat then A1 else (A1 : Option Addr).map (·.add ((t611 : Int).toNat * 1))) := ⟨_, rfl⟩
             obtain ⟨c27, hc27⟩ : ∃ cz_, cz_ = c1 - (t611 : Int).toNat := ⟨_, rfl⟩
             have hy27 : y616.length = (t612 : Int).toNat - (t611 : Int).toNat := (by rw [Ny616.out, List.length_drop, List.length_take] <;> omega)
             rw [show ((l1).take (t612 : Int).toNat).drop (t611 : Int).toNat = y616 from Ny616.out.symm] at hr27
             replace hr27 : Kd.C (Kd.int .i64) _ A27 y616.length y616 := (by rw [hA27]; exact hr27)
             rw [← hy27, ← hA27, ← hc27] at hcut27
             have HR619 := Aside0.mk hr27
             have HC619 := Aside0.mk (show y616.length ≤ c27 from by rw [hy27, hc27]; exact Nat.sub_le_sub_right (Nat.le_trans (by omega) hroom27) _)
             clear hr27 hC27 hroom27 hi027 hsz27 hc27
             have KY27 := Aside0.mk hy27
             have KA27 := Aside0.mk hA27
             clear hy27 hA27
             have KL27 := Aside0.mk (show (t612 : Int).toNat ≤ l1.length from by omega)
             have KM27 := Aside0.mk (show (t611 : Int).toNat ≤ (t612 : Int).toNat from by omega)
             replace q27 := eq_true q27
             have q28 : (t614 : Int) ≤ ((l2.length : Int) : Int) := of_decide_eq_true (by first | (with_reducible assumption) | assumption)
             obtain ⟨i028, hi028, _, hsz28, _⟩ := info_parts info3
             have hroom28 : l2.length ≤ c2 := HC2.out
             have hC28 : Kd.C (Kd.int .i64) _ A2 l2.length l2 := (Kd.C_kept_now HR2.out HK.out)
             have ql28 : (t613 : Int) ≤ (t614 : Int) := of_decide_eq_true (by first | (with_reducible assumption) | assumption)
             have q028 : (0 : Int) ≤ (t613 : Int) := of_decide_eq_true (by first | (with_reducible assumption) | assumption)
             have hcut28 := cut_mid (P := Try.prog) 22 3 .i64 .i64 Try.underlying22 hi028 1 hsz28 A2 l2.length c2 t613 t614 q028 ql28 q28 hroom28
             have hr28 := Kd.C_mid (lo := (t613 : Int).toNat) (hi := (t614 : Int).toNat) (c := c2) hC28 (by omega) (by omega) hroom28
             obtain ⟨A28, hA28⟩ : ∃ A1, A1 = (if c2 = (t613 : Int).toNat then A2 else (A2 : Option Addr).map (·.add ((t613 : Int).toNat * 1))) := ⟨_, rfl⟩
             obtain ⟨c28, hc28⟩ : ∃ c1, c1 = c2 - (t613 : Int).toNat := ⟨_, rfl⟩
             have hy28 : y620.length = (t614 : Int).toNat - (t613 : Int).toNat := (by rw [Ny620.out, List.length_drop, List.length_take] <;> omega)
             rw [show ((l2).take (t614 : Int).toNat).drop (t613 : Int).toNat = y620 from Ny620.out.symm] at hr28
             replace hr28 : Kd.C (Kd.int .i64) _ A28 y620.length y620 := (by rw [hA28]; exact hr28)
             rw [← hy28, ← hA28, ← hc28] at hcut28
             have HR623 := Aside0.mk hr28
             have HC623 := Aside0.mk (show y620.length ≤ c28 from by rw [hy28, hc28]; exact Nat.sub_le_sub_right (Nat.le_trans (by omega) hroom28) _)
             clear hr28 hC28 hroom28 hi028 hsz28 hc28
             have KY28 := Aside0.mk hy28
             have KA28 := Aside0.mk hA28
             clear hy28 hA28
             have KL28 := Aside0.mk (show (t614 : Int).toNat ≤ l2.length from by omega)
             have KM28 := Aside0.mk (show (t613 : Int).toNat ≤ (t614 : Int).toNat from by omega)
             replace q28 := eq_true q28
             refine start_ (n := 19) (S := fun w' => w'.cell? ⟨gb610, 0, none⟩ = some (.int .i64 t611) ∧ w'.cell? ⟨gb610, 1, none⟩ = some (.int .i64 t612) ∧ w'.cell? ⟨gb610, 2, none⟩ = some (.int .i64 t613) ∧ w'.cell? ⟨gb610, 3, none⟩ = some (.int .i64 t614)) (ds := []) #[false, false, false, false, false, false, false, false, false, false, false, false, false, false, false, false, false, false, false] (by kernel_rfl) rfl rfl ⟨(blk_cell BK610.out 0).trans rfl, (blk_cell BK610.out 1).trans rfl, (blk_cell BK610.out 2).trans rfl, (blk_cell BK610.out 3).trans rfl⟩ (fun hHeld => ?_); refine with_tabW redlineref08_piece.tab3 redlineref08_piece.bits3 (fun HT_ HW_ => ?_)
             generalize wc.drew = w26 at HO_0 BK610 HK HB HR619 HR623 hHeld ⊢
             refine pw_ 0 31 (ar 19 1) HT_.out ?_
             refine pw_ 1 32 (ar 19 2) HT_.out ?_
             refine pw_ 3 34 #[true, true, false, true, false, false, false, false, false, false, false, false, false, false, false, false, false, false, false] HT_.out ?_
             refine pw_ 6 37 #[true, true, false, true, false, false, true, false, false, false, false, false, false, false, false, false, false, false, false] HT_.out ?_
             refine pw_ 7 38 #[true, true, false, true, false, false, true, true, false, false, false, false, false, false, false, false, false, false, false] HT_.out ?_
             refine pw_ 9 40 #[true, true, false, true, false, false, true, true, false, true, false, false, false, false, false, false, false, false, false] HT_.out ?_
             refine take_ (i := 2) (N := some 33) (v := ?_) (a' := ?_) #[true, true, true, true, false, false, true, true, false, true, false, false, false, false, false, false, false, false, false] rfl rfl (take_ofW HT_.out HW_.out (by kernel_rfl)) (fun _ _ _ h => h) (Or.inl ⟨by rfl, ?_⟩) hHeld ?_ ?_
             rotate_left
             ·rintro w' ⟨s0, s1, s2, s3⟩
              go_simp
              with_reducible rfl
             rotate_left
             ·simp only [Act.put, List.setIfInBounds_toArray, List.set_cons_zero, List.set_cons_succ, i64_w, i32_w]
              rfl
             refine take_ (i := 4) (N := some 35) (v := ?_) (a' := ?_) #[true, true, true, true, true, false, true, true, false, true, false, false, false, false, false, false, false, false, false] rfl rfl (take_ofW HT_.out HW_.out (by kernel_rfl)) (fun _ _ _ h => h) (Or.inl ⟨by rfl, ?_⟩) hHeld ?_ ?_
             rotate_left
             ·rintro w' ⟨s0, s1, s2, s3⟩
              go_simp
              with_reducible rfl
             rotate_left
             ·simp only [Act.put, List.setIfInBounds_toArray, List.set_cons_zero, List.set_cons_succ, i64_w, i32_w]
              rfl
             refine pw_ 5 36 #[true, true, true, true, true, true, true, true, false, true, false, false, false, false, false, false, false, false, false] HT_.out ?_
             refine take_ (i := 8) (N := some 39) (v := ?_) (a' := ?_) (ar 19 10) rfl rfl (take_ofW HT_.out HW_.out (by kernel_rfl)) (fun _ _ _ h => h) (Or.inl ⟨by rfl, ?_⟩) hHeld ?_ ?_
             rotate_left
             ·rintro w' ⟨s0, s1, s2, s3⟩
              go_simp
              with_reducible rfl
             rotate_left
             ·simp only [Act.put, List.setIfInBounds_toArray, List.set_cons_zero, List.set_cons_succ, i64_w, i32_w]
              rfl
             refine take_ (i := 10) (N := some 41) (v := ?_) (a' := ?_) (ar 19 11) rfl rfl (take_ofW HT_.out HW_.out (by kernel_rfl)) (fun _ _ _ h => h) (Or.inl ⟨by rfl, ?_⟩) hHeld ?_ ?_
             rotate_left
             ·rintro w' ⟨s0, s1, s2, s3⟩
              go_simp
              with_reducible rfl
             rotate_left
             ·simp only [Act.put, List.setIfInBounds_toArray, List.set_cons_zero, List.set_cons_succ, i64_w, i32_w]
              rfl
             refine pw_ 11 42 (ar 19 12) HT_.out ?_
             refine join_ (σ := Nat) 2 (ar 19 17) (fun s_ => [(43, .tuple #[.agg #[.int .i64 t624, .int .i64 t625, .int .i64 t626, .int .i64 t627], .bool true]), (8, .pointer (some ⟨s_, 0, none⟩)), (30, .tuple #[.agg #[.int .i64 t624, .int .i64 t625, .int .i64 t626, .int .i64 t627], .bool true]), (44, .agg #[.int .i64 t624, .int .i64 t625, .int .i64 t626, .int .i64 t627]), (45, .bool true)]) (fun s_ w' => (w'.cell? ⟨gb610, 0, none⟩ = some (.int .i64 t611) ∧ w'.cell? ⟨gb610, 1, none⟩ = some (.int .i64 t612) ∧ w'.cell? ⟨gb610, 2, none⟩ = some (.int .i64 t613) ∧ w'.cell? ⟨gb610, 3, none⟩ = some (.int .i64 t614)) ∧ (Kd.R (Kd.int .i64) 3 w' w0.heap.size (fun k_ => (P0_ k_ ∨ w.heap.size ≤ k_)) (.slice Ao9 t615.length co9) t615) ∧ (w'.heap[gb610]? = some (.cells #[.int .i64 t611, .int .i64 t612, .int .i64 t613, .int .i64 t614] 70 (0, 0))) ∧ (w'.heap[s_]? = some (.cells #[.int .i64 0, .int .i64 0, .int .i64 0, .int .i64 0] 30 (0, 0))) ∧ (w.heap.size ≤ s_) ∧ (w0.heap.size ≤ s_) ∧ (gb610 ≠ s_) ∧ (s_ ≠ gb610) ∧ (Kept w w' (fun k_ => P0_ k_)) ∧ (Below w0.heap.size w0 w')) ?_ ?_
             rotate_left
             ·intro hCont
              refine two_ (i := 12) (j := 16) (Ni := some 43) (Nj := some 8) (ar 19 13) #[true, true, true, true, true, true, true, true, true, true, true, true, false, false, false, false, true, false, false] rfl rfl rfl rfl (two_of HT_.out (by kernel_rfl)) (by decide) (by decide) (fun K hK => ?_) (fun K hK => ?_)
              ·skip
               refine goes_ Try.func19 (by kernel_rfl) rfl #[.slice A27 y616.length c27, .slice A28 y620.length c28] (by rfl) rfl rfl (by (try simp only [List.map_toArray, List.map_cons, List.map_nil]); first | done | rfl | (simp only [List.length_drop, List.length_take]; rfl)) ?_
               with_reducible refine (redlineref08_Best.calls kj5 _ _ y616 _ _ y620 t624 t625 t626 t627 true _ ?side1 ?side2 ?side3 ?side4 A22.out).mono ?_
               (case side1 => repeat (first | exact (by repeat (first | (with_reducible exact HR619.out) | (with_reducible refine Kd.C_alloc ?_ _) | (with_reducible refine Kd.C_drewN ?_ _) | (with_reducible refine Kd.C_drew ?_) | exact HR619.out)) | (with_reducible refine Kd.C_alloc ?_ _) | (with_reducible refine Kd.C_drewN ?_ _) | (with_reducible refine Kd.C_drew ?_)))
               (case side2 => exact HC619.out)
               (case side3 => repeat (first | exact (by repeat (first | (with_reducible exact HR623.out) | (with_reducible refine Kd.C_alloc ?_ _) | (with_reducible refine Kd.C_drewN ?_ _) | (with_reducible refine Kd.C_drew ?_) | exact HR623.out)) | (with_reducible refine Kd.C_alloc ?_ _) | (with_reducible refine Kd.C_drewN ?_ _) | (with_reducible refine Kd.C_drew ?_)))
               (case side4 => exact HC623.out)
               rintro e w29 ⟨rfl, hb⟩
               refine ⟨_, rfl, ?_⟩
               have n0_ := Aside0.mk (Kd.R_below (by (with_reducible repeat (first | apply Kd.R_alloc | apply Kd.R_drewN | apply Kd.R_drew)); exact HO_0.out) hb)
               have n1_ := Aside0.mk (blk_below (g := gb610) (o := .cells #[.int .i64 t611, .int .i64 t612, .int .i64 t613, .int .i64 t614] 70 (0, 0)) (by (with_reducible repeat (first | refine blk_drewN ?_ _ | refine blk_drew ?_ | refine blk_alloc ?_ _)); exact BK610.out) hb)
               have n2_ := Aside0.mk (Kd.C_below (by repeat (first | (with_reducible exact HR619.out) | (with_reducible refine Kd.C_alloc ?_ _) | (with_reducible refine Kd.C_drewN ?_ _) | (with_reducible refine Kd.C_drew ?_) | exact HR619.out)) hb)
               have n3_ := Aside0.mk (Kd.C_below (by repeat (first | (with_reducible exact HR623.out) | (with_reducible refine Kd.C_alloc ?_ _) | (with_reducible refine Kd.C_drewN ?_ _) | (with_reducible refine Kd.C_drew ?_) | exact HR623.out)) hb)
               have n4_ := Aside0.mk (Kept.below (S := (fun k_ => P0_ k_)) (by repeat (first | (with_reducible first | exact HK.out | apply Kept.alloc | apply Kept.drewN | apply Kept.drew | refine Kept.setCell ?_ (.inr GW610.out) _) | exact HK.out)) hb)
               have n5_ := Aside0.mk (below_step (by repeat (first | (with_reducible first | exact HB.out | apply below_alloc | apply pw_below_drewN | apply below_drew1 | refine below_set ?_ GE610.out) | exact HB.out)) hb)
               clear HO_0
               clear BK610
               clear HR619
               clear HR623
               clear HK
               clear HB
               have HO_0 := n0_
               have BK610 := n1_
               have HR619 := n2_
               have HR623 := n3_
               have HK := n4_
               have HB := n5_
               clear n0_ n1_ n2_ n3_ n4_ n5_
               (try clear hb)
               (try clear hb2)
               (try clear hk)
               (try clear hi)
               refine hK.out _ _ ⟨(blk_cell BK610.out 0).trans rfl, (blk_cell BK610.out 1).trans rfl, (blk_cell BK610.out 2).trans rfl, (blk_cell BK610.out 3).trans rfl⟩ (fun hHeld => ?_)
               clear hK K
               refine norm_ (a' := ?_) ?_ ?_
               rotate_left
               ·show Act.put _ (some 43) _ = _
                simp only [Act.put, List.setIfInBounds_toArray, List.set_cons_zero, List.set_cons_succ, i64_w, i32_w]
                rfl
               refine pw_ 13 30 (ar 19 14) HT_.out ?_
               refine pw_ 14 44 (ar 19 15) HT_.out ?_
               refine pw_ 15 45 (ar 19 16) HT_.out ?_
               refine one_ (i := 16) (N := some 8) (ar 19 17) rfl rfl (one_of HT_.out (by kernel_rfl)) (by decide) (fun K hK => ?_)
               refine box_step ?hg (N := 8) ?hd (cs := #[.int .i64 0, .int .i64 0, .int .i64 0, .int .i64 0]) (t := 30) ?hr ?_; (case hd => rfl); (case hg => rfl); (case hr => first | (go_simp; done) | (go_simp; rfl))
               intro gb629 hg w30 hbox hb
               have n0_ := Aside0.mk (Kd.R_below (by (with_reducible repeat (first | apply Kd.R_alloc | apply Kd.R_drewN | apply Kd.R_drew)); exact HO_0.out) hb)
               have n1_ := Aside0.mk (blk_below (g := gb610) (o := .cells #[.int .i64 t611, .int .i64 t612, .int .i64 t613, .int .i64 t614] 70 (0, 0)) (by (with_reducible repeat (first | refine blk_drewN ?_ _ | refine blk_drew ?_ | refine blk_alloc ?_ _)); exact BK610.out) hb)
               have n2_ := Aside0.mk (Kd.C_below (by repeat (first | (with_reducible exact HR619.out) | (with_reducible refine Kd.C_alloc ?_ _) | (with_reducible refine Kd.C_drewN ?_ _) | (with_reducible refine Kd.C_drew ?_) | exact HR619.out)) hb)
               have n3_ := Aside0.mk (Kd.C_below (by repeat (first | (with_reducible exact HR623.out) | (with_reducible refine Kd.C_alloc ?_ _) | (with_reducible refine Kd.C_drewN ?_ _) | (with_reducible refine Kd.C_drew ?_) | exact HR623.out)) hb)
               have n4_ := Aside0.mk (Kept.below (S := (fun k_ => P0_ k_)) (by repeat (first | (with_reducible first | exact HK.out | apply Kept.alloc | apply Kept.drewN | apply Kept.drew | refine Kept.setCell ?_ (.inr GW610.out) _) | exact HK.out)) hb)
               have n5_ := Aside0.mk (below_step (by repeat (first | (with_reducible first | exact HB.out | apply below_alloc | apply pw_below_drewN | apply below_drew1 | refine below_set ?_ GE610.out) | exact HB.out)) hb)
               have n6_ := Aside0.mk (hbox)
               have n7_ := Aside0.mk ((by rw [hg]; exact (by first | exact HK.out.1 | exact (show Kept w _ (fun k_ => P0_ k_) from by repeat (first | (with_reducible first | exact HK.out | apply Kept.alloc | apply Kept.drewN | apply Kept.drew | refine Kept.setCell ?_ (.inr GW610.out) _) | exact HK.out)).1) : w.heap.size ≤ gb629))
               have n8_ := Aside0.mk ((by rw [hg]; exact (below_size (by repeat (first | (with_reducible first | exact HB.out | apply below_alloc | apply pw_below_drewN | apply below_drew1 | refine below_set ?_ GE610.out) | exact HB.out))) : w0.heap.size ≤ gb629))
               have n9_ := Aside0.mk ((by rw [hg]; exact Nat.ne_of_lt (blk_lt (g := gb610) (o := .cells #[.int .i64 t611, .int .i64 t612, .int .i64 t613, .int .i64 t614] 70 (0, 0)) (by (with_reducible repeat (first | refine blk_drewN ?_ _ | refine blk_drew ?_ | refine blk_alloc ?_ _)); exact BK610.out)) : gb610 ≠ gb629))
               have n10_ := Aside0.mk ((by rw [hg]; exact Nat.ne_of_gt (blk_lt (g := gb610) (o := .cells #[.int .i64 t611, .int .i64 t612, .int .i64 t613, .int .i64 t614] 70 (0, 0)) (by (with_reducible repeat (first | refine blk_drewN ?_ _ | refine blk_drew ?_ | refine blk_alloc ?_ _)); exact BK610.out)) : gb629 ≠ gb610))
               clear HO_0
               clear BK610
               clear HR619
               clear HR623
               clear HK
               clear HB
               have HO_0 := n0_
               have BK610 := n1_
               have HR619 := n2_
               have HR623 := n3_
               have HK := n4_
               have HB := n5_
               have BK629 := n6_
               have GW629 := n7_
               have GE629 := n8_
               have NB610_629 := n9_
               have NB629_610 := n10_
               clear n0_ n1_ n2_ n3_ n4_ n5_ n6_ n7_ n8_ n9_ n10_
               clear hb hbox hg
               refine hK.out _ _ ⟨(blk_cell BK610.out 0).trans rfl, (blk_cell BK610.out 1).trans rfl, (blk_cell BK610.out 2).trans rfl, (blk_cell BK610.out 3).trans rfl⟩ (fun hHeld => ?_)
               clear hK K
               refine norm_ (a' := ?_) ?_ ?_
               rotate_left
               ·show Act.put _ (some 8) _ = _
                simp only [Act.put, List.setIfInBounds_toArray, List.set_cons_zero, List.set_cons_succ, i64_w, i32_w]
                rfl
               exact norm_ (by simp only [putAll, Act.put, List.setIfInBounds_toArray, List.set_cons_zero, List.set_cons_succ]) (hCont (gb629) _ ⟨hHeld, (by (with_reducible repeat (first | apply Kd.R_alloc | apply Kd.R_drewN | apply Kd.R_drew)); exact HO_0.out), (by (with_reducible repeat (first | refine blk_drewN ?_ _ | refine blk_drew ?_ | refine blk_alloc ?_ _)); exact BK610.out), (by (with_reducible repeat (first | refine blk_drewN ?_ _ | refine blk_drew ?_ | refine blk_alloc ?_ _)); exact BK629.out), GW629.out, GE629.out, NB610_629.out, NB629_610.out, (by repeat (first | (with_reducible first | exact HK.out | apply Kept.alloc | apply Kept.drewN | apply Kept.drew | refine Kept.setCell ?_ (.inr GW610.out) _ | refine Kept.setCell ?_ (.inr GW629.out) _) | exact HK.out)), (by repeat (first | (with_reducible first | exact HB.out | apply below_alloc | apply pw_below_drewN | apply below_drew1 | refine below_set ?_ GE610.out | refine below_set ?_ GE629.out) | exact HB.out))⟩)
              ·skip
               refine box_step ?hg (N := 8) ?hd (cs := #[.int .i64 0, .int .i64 0, .int .i64 0, .int .i64 0]) (t := 30) ?hr ?_; (case hd => rfl); (case hg => rfl); (case hr => first | (go_simp; done) | (go_simp; rfl))
               intro gb629 hg w29 hbox hb
               have n0_ := Aside0.mk (Kd.R_below (by (with_reducible repeat (first | apply Kd.R_alloc | apply Kd.R_drewN | apply Kd.R_drew)); exact HO_0.out) hb)
               have n1_ := Aside0.mk (blk_below (g := gb610) (o := .cells #[.int .i64 t611, .int .i64 t612, .int .i64 t613, .int .i64 t614] 70 (0, 0)) (by (with_reducible repeat (first | refine blk_drewN ?_ _ | refine blk_drew ?_ | refine blk_alloc ?_ _)); exact BK610.out) hb)
               have n2_ := Aside0.mk (Kd.C_below (by repeat (first | (with_reducible exact HR619.out) | (with_reducible refine Kd.C_alloc ?_ _) | (with_reducible refine Kd.C_drewN ?_ _) | (with_reducible refine Kd.C_drew ?_) | exact HR619.out)) hb)
               have n3_ := Aside0.mk (Kd.C_below (by repeat (first | (with_reducible exact HR623.out) | (with_reducible refine Kd.C_alloc ?_ _) | (with_reducible refine Kd.C_drewN ?_ _) | (with_reducible refine Kd.C_drew ?_) | exact HR623.out)) hb)
               have n4_ := Aside0.mk (Kept.below (S := (fun k_ => P0_ k_)) (by repeat (first | (with_reducible first | exact HK.out | apply Kept.alloc | apply Kept.drewN | apply Kept.drew | refine Kept.setCell ?_ (.inr GW610.out) _) | exact HK.out)) hb)
               have n5_ := Aside0.mk (below_step (by repeat (first | (with_reducible first | exact HB.out | apply below_alloc | apply pw_below_drewN | apply below_drew1 | refine below_set ?_ GE610.out) | exact HB.out)) hb)
               have n6_ := Aside0.mk (hbox)
               have n7_ := Aside0.mk ((by rw [hg]; exact (by first | exact HK.out.1 | exact (show Kept w _ (fun k_ => P0_ k_) from by repeat (first | (with_reducible first | exact HK.out | apply Kept.alloc | apply Kept.drewN | apply Kept.drew | refine Kept.setCell ?_ (.inr GW610.out) _) | exact HK.out)).1) : w.heap.size ≤ gb629))
               have n8_ := Aside0.mk ((by rw [hg]; exact (below_size (by repeat (first | (with_reducible first | exact HB.out | apply below_alloc | apply pw_below_drewN | apply below_drew1 | refine below_set ?_ GE610.out) | exact HB.out))) : w0.heap.size ≤ gb629))
               have n9_ := Aside0.mk ((by rw [hg]; exact Nat.ne_of_lt (blk_lt (g := gb610) (o := .cells #[.int .i64 t611, .int .i64 t612, .int .i64 t613, .int .i64 t614] 70 (0, 0)) (by (with_reducible repeat (first | refine blk_drewN ?_ _ | refine blk_drew ?_ | refine blk_alloc ?_ _)); exact BK610.out)) : gb610 ≠ gb629))
               have n10_ := Aside0.mk ((by rw [hg]; exact Nat.ne_of_gt (blk_lt (g := gb610) (o := .cells #[.int .i64 t611, .int .i64 t612, .int .i64 t613, .int .i64 t614] 70 (0, 0)) (by (with_reducible repeat (first | refine blk_drewN ?_ _ | refine blk_drew ?_ | refine blk_alloc ?_ _)); exact BK610.out)) : gb629 ≠ gb610))
               clear HO_0
               clear BK610
               clear HR619
               clear HR623
               clear HK
               clear HB
               have HO_0 := n0_
               have BK610 := n1_
               have HR619 := n2_
               have HR623 := n3_
               have HK := n4_
               have HB := n5_
               have BK629 := n6_
               have GW629 := n7_
               have GE629 := n8_
               have NB610_629 := n9_
               have NB629_610 := n10_
               clear n0_ n1_ n2_ n3_ n4_ n5_ n6_ n7_ n8_ n9_ n10_
               clear hb hbox hg
               refine hK.out _ _ ⟨(blk_cell BK610.out 0).trans rfl, (blk_cell BK610.out 1).trans rfl, (blk_cell BK610.out 2).trans rfl, (blk_cell BK610.out 3).trans rfl⟩ (fun hHeld => ?_)
               clear hK K
               refine norm_ (a' := ?_) ?_ ?_
               rotate_left
               ·show Act.put _ (some 8) _ = _
                simp only [Act.put, List.setIfInBounds_toArray, List.set_cons_zero, List.set_cons_succ, i64_w, i32_w]
                rfl
               refine one_ (i := 12) (N := some 43) #[true, true, true, true, true, true, true, true, true, true, true, true, true, false, false, false, true, false, false] rfl rfl (one_of HT_.out (by kernel_rfl)) (by decide) (fun K hK => ?_)
               refine goes_ Try.func19 (by kernel_rfl) rfl #[.slice A27 y616.length c27, .slice A28 y620.length c28] (by rfl) rfl rfl (by (try simp only [List.map_toArray, List.map_cons, List.map_nil]); first | done | rfl | (simp only [List.length_drop, List.length_take]; rfl)) ?_
               with_reducible refine (redlineref08_Best.calls kj5 _ _ y616 _ _ y620 t624 t625 t626 t627 true _ ?side1 ?side2 ?side3 ?side4 A22.out).mono ?_
               (case side1 => repeat (first | exact (by repeat (first | (with_reducible exact HR619.out) | (with_reducible refine Kd.C_alloc ?_ _) | (with_reducible refine Kd.C_drewN ?_ _) | (with_reducible refine Kd.C_drew ?_) | exact HR619.out)) | (with_reducible refine Kd.C_alloc ?_ _) | (with_reducible refine Kd.C_drewN ?_ _) | (with_reducible refine Kd.C_drew ?_)))
               (case side2 => exact HC619.out)
               (case side3 => repeat (first | exact (by repeat (first | (with_reducible exact HR623.out) | (with_reducible refine Kd.C_alloc ?_ _) | (with_reducible refine Kd.C_drewN ?_ _) | (with_reducible refine Kd.C_drew ?_) | exact HR623.out)) | (with_reducible refine Kd.C_alloc ?_ _) | (with_reducible refine Kd.C_drewN ?_ _) | (with_reducible refine Kd.C_drew ?_)))
               (case side4 => exact HC623.out)
               rintro e w30 ⟨rfl, hb⟩
               refine ⟨_, rfl, ?_⟩
               have n0_ := Aside0.mk (Kd.R_below (by (with_reducible repeat (first | apply Kd.R_alloc | apply Kd.R_drewN | apply Kd.R_drew)); exact HO_0.out) hb)
               have n1_ := Aside0.mk (blk_below (g := gb610) (o := .cells #[.int .i64 t611, .int .i64 t612, .int .i64 t613, .int .i64 t614] 70 (0, 0)) (by (with_reducible repeat (first | refine blk_drewN ?_ _ | refine blk_drew ?_ | refine blk_alloc ?_ _)); exact BK610.out) hb)
               have n2_ := Aside0.mk (Kd.C_below (by repeat (first | (with_reducible exact HR619.out) | (with_reducible refine Kd.C_alloc ?_ _) | (with_reducible refine Kd.C_drewN ?_ _) | (with_reducible refine Kd.C_drew ?_) | exact HR619.out)) hb)
               have n3_ := Aside0.mk (Kd.C_below (by repeat (first | (with_reducible exact HR623.out) | (with_reducible refine Kd.C_alloc ?_ _) | (with_reducible refine Kd.C_drewN ?_ _) | (with_reducible refine Kd.C_drew ?_) | exact HR623.out)) hb)
               have n4_ := Aside0.mk (blk_below (g := gb629) (o := .cells #[.int .i64 0, .int .i64 0, .int .i64 0, .int .i64 0] 30 (0, 0)) (by (with_reducible repeat (first | refine blk_drewN ?_ _ | refine blk_drew ?_ | refine blk_alloc ?_ _)); exact BK629.out) hb)
               have n5_ := Aside0.mk (Kept.below (S := (fun k_ => P0_ k_)) (by repeat (first | (with_reducible first | exact HK.out | apply Kept.alloc | apply Kept.drewN | apply Kept.drew | refine Kept.setCell ?_ (.inr GW610.out) _ | refine Kept.setCell ?_ (.inr GW629.out) _) | exact HK.out)) hb)
               have n6_ := Aside0.mk (below_step (by repeat (first | (with_reducible first | exact HB.out | apply below_alloc | apply pw_below_drewN | apply below_drew1 | refine below_set ?_ GE610.out | refine below_set ?_ GE629.out) | exact HB.out)) hb)
               clear HO_0
               clear BK610
               clear HR619
               clear HR623
               clear BK629
               clear HK
               clear HB
               have HO_0 := n0_
               have BK610 := n1_
               have HR619 := n2_
               have HR623 := n3_
               have BK629 := n4_
               have HK := n5_
               have HB := n6_
               clear n0_ n1_ n2_ n3_ n4_ n5_ n6_
               (try clear hb)
               (try clear hb2)
               (try clear hk)
               (try clear hi)
               refine hK.out _ _ ⟨(blk_cell BK610.out 0).trans rfl, (blk_cell BK610.out 1).trans rfl, (blk_cell BK610.out 2).trans rfl, (blk_cell BK610.out 3).trans rfl⟩ (fun hHeld => ?_)
               clear hK K
               refine norm_ (a' := ?_) ?_ ?_
               rotate_left
               ·show Act.put _ (some 43) _ = _
                simp only [Act.put, List.setIfInBounds_toArray, List.set_cons_zero, List.set_cons_succ, i64_w, i32_w]
                rfl
               refine pw_ 13 30 #[true, true, true, true, true, true, true, true, true, true, true, true, true, true, false, false, true, false, false] HT_.out ?_
               refine pw_ 14 44 #[true, true, true, true, true, true, true, true, true, true, true, true, true, true, true, false, true, false, false] HT_.out ?_
               refine pw_ 15 45 (ar 19 17) HT_.out ?_
               exact norm_ (by simp only [putAll, Act.put, List.setIfInBounds_toArray, List.set_cons_zero, List.set_cons_succ]) (hCont (gb629) _ ⟨hHeld, (by (with_reducible repeat (first | apply Kd.R_alloc | apply Kd.R_drewN | apply Kd.R_drew)); exact HO_0.out), (by (with_reducible repeat (first | refine blk_drewN ?_ _ | refine blk_drew ?_ | refine blk_alloc ?_ _)); exact BK610.out), (by (with_reducible repeat (first | refine blk_drewN ?_ _ | refine blk_drew ?_ | refine blk_alloc ?_ _)); exact BK629.out), GW629.out, GE629.out, NB610_629.out, NB629_610.out, (by repeat (first | (with_reducible first | exact HK.out | apply Kept.alloc | apply Kept.drewN | apply Kept.drew | refine Kept.setCell ?_ (.inr GW610.out) _ | refine Kept.setCell ?_ (.inr GW629.out) _) | exact HK.out)), (by repeat (first | (with_reducible first | exact HB.out | apply below_alloc | apply pw_below_drewN | apply below_drew1 | refine below_set ?_ GE610.out | refine below_set ?_ GE629.out) | exact HB.out))⟩)
             rintro gb629 w31 ⟨hS_, h0_, h1_, h2_, h3_, h4_, h5_, h6_, h7_, h8_⟩
             have n0_ : Aside0 (Kd.R (Kd.int .i64) 3 w31 w0.heap.size (fun k_ => (P0_ k_ ∨ w.heap.size ≤ k_)) (.slice Ao9 t615.length co9) t615) := ⟨h0_⟩
             have n1_ : Aside0 (w31.heap[gb610]? = some (.cells #[.int .i64 t611, .int .i64 t612, .int .i64 t613, .int .i64 t614] 70 (0, 0))) := ⟨h1_⟩
             have n2_ : Aside0 (w31.heap[gb629]? = some (.cells #[.int .i64 0, .int .i64 0, .int .i64 0, .int .i64 0] 30 (0, 0))) := ⟨h2_⟩
             have n3_ : Aside0 (w.heap.size ≤ gb629) := ⟨h3_⟩
             have n4_ : Aside0 (w0.heap.size ≤ gb629) := ⟨h4_⟩
             have n5_ : Aside0 (gb610 ≠ gb629) := ⟨h5_⟩
             have n6_ : Aside0 (gb629 ≠ gb610) := ⟨h6_⟩
             have n7_ : Aside0 (Kept w w31 (fun k_ => P0_ k_)) := ⟨h7_⟩
             have n8_ : Aside0 (Below w0.heap.size w0 w31) := ⟨h8_⟩
             clear HO_0
             clear BK610
             clear HK
             clear HB
             clear h0_ h1_ h2_ h3_ h4_ h5_ h6_ h7_ h8_
             have HO_0 := n0_
             have BK610 := n1_
             have BK629 := n2_
             have GW629 := n3_
             have GE629 := n4_
             have NB610_629 := n5_
             have NB629_610 := n6_
             have HK := n7_
             have HB := n8_
             clear n0_ n1_ n2_ n3_ n4_ n5_ n6_ n7_ n8_
             have hHeld : w31.cell? ⟨gb610, 0, none⟩ = some (.int .i64 t611) ∧ w31.cell? ⟨gb610, 1, none⟩ = some (.int .i64 t612) ∧ w31.cell? ⟨gb610, 2, none⟩ = some (.int .i64 t613) ∧ w31.cell? ⟨gb610, 3, none⟩ = some (.int .i64 t614) := hS_
             refine norm_ (a' := ?_) ?_ ?_
             rotate_left
             ·simp only [putAll, Act.put, List.setIfInBounds_toArray, List.set_cons_zero, List.set_cons_succ]
              rfl
             refine one_ (i := 17) (N := none) (ar 19 18) rfl rfl (one_of HT_.out (by kernel_rfl)) (by decide) (fun K hK => ?_)
             have hs32 : w31.cell? ⟨gb629, 0, none⟩ = some (.int .i64 0) := (blk_cell BK629.out 0).trans rfl
             have hfs32 := blk_frozen BK629.out 0
             have hns32_0 := NB610_629.out
             have hms32_0 := NB629_610.out
             have hs33 : w31.cell? ⟨gb629, 1, none⟩ = some (.int .i64 0) := (blk_cell BK629.out 1).trans rfl
             have hfs33 := blk_frozen BK629.out 1
             have hns33_0 := NB610_629.out
             have hms33_0 := NB629_610.out
             have hs34 : w31.cell? ⟨gb629, 2, none⟩ = some (.int .i64 0) := (blk_cell BK629.out 2).trans rfl
             have hfs34 := blk_frozen BK629.out 2
             have hns34_0 := NB610_629.out
             have hms34_0 := NB629_610.out
             have hs35 : w31.cell? ⟨gb629, 3, none⟩ = some (.int .i64 0) := (blk_cell BK629.out 3).trans rfl
             have hfs35 := blk_frozen BK629.out 3
             have hns35_0 := NB610_629.out
             have hms35_0 := NB629_610.out
             refine skip_ (w1 := ?_) (by rfl) rfl ?_ ?_
             rotate_left
             ·go_simp
              rfl
             refine hK.out _ _ ⟨((cell_far (p := ⟨gb629, _, none⟩) NB610_629.out _).trans (((cell_far (p := ⟨gb629, _, none⟩) NB610_629.out _).trans (((cell_far (p := ⟨gb629, _, none⟩) NB610_629.out _).trans (((cell_far (p := ⟨gb629, _, none⟩) NB610_629.out _).trans (hHeld.1)))))))), ((cell_far (p := ⟨gb629, _, none⟩) NB610_629.out _).trans (((cell_far (p := ⟨gb629, _, none⟩) NB610_629.out _).trans (((cell_far (p := ⟨gb629, _, none⟩) NB610_629.out _).trans (((cell_far (p := ⟨gb629, _, none⟩) NB610_629.out _).trans (hHeld.2.1)))))))), ((cell_far (p := ⟨gb629, _, none⟩) NB610_629.out _).trans (((cell_far (p := ⟨gb629, _, none⟩) NB610_629.out _).trans (((cell_far (p := ⟨gb629, _, none⟩) NB610_629.out _).trans (((cell_far (p := ⟨gb629, _, none⟩) NB610_629.out _).trans (hHeld.2.2.1)))))))), ((cell_far (p := ⟨gb629, _, none⟩) NB610_629.out _).trans (((cell_far (p := ⟨gb629, _, none⟩) NB610_629.out _).trans (((cell_far (p := ⟨gb629, _, none⟩) NB610_629.out _).trans (((cell_far (p := ⟨gb629, _, none⟩) NB610_629.out _).trans (hHeld.2.2.2))))))))⟩ (fun hHeld => ?_)
             clear hK K
             refine pw_ 18 9 (ar 19 19) HT_.out ?_
             refine done_ (done_of HT_.out (by kernel_rfl)) ?_
             have n0_ : Aside0 (Kd.R (Kd.int .i64) 3 ((((w31.setCell ⟨gb629, 0, none⟩ (.int .i64 t624)).setCell ⟨gb629, 1, none⟩ (.int .i64 t625)).setCell ⟨gb629, 2, none⟩ (.int .i64 t626)).setCell ⟨gb629, 3, none⟩ (.int .i64 t627)) w0.heap.size (fun k_ => (P0_ k_ ∨ w.heap.size ≤ k_)) (.slice Ao9 t615.length co9) t615) := ⟨by (with_reducible repeat (first | apply Kd.R_alloc | apply Kd.R_drewN | apply Kd.R_drew)); exact Kd.R_mono (Kd.R_far (p := ⟨gb629, 3, none⟩) (Kd.R_far (p := ⟨gb629, 2, none⟩) (Kd.R_far (p := ⟨gb629, 1, none⟩) (Kd.R_far (p := ⟨gb629, 0, none⟩) (Kd.R_types HO_0.out BK629.out (by decide)) (fun _ hk => hk.2) (.int .i64 t624)) (fun _ hk => hk.2) (.int .i64 t625)) (fun _ hk => hk.2) (.int .i64 t626)) (fun _ hk => hk.2) (.int .i64 t627)) (fun _ hk => hk.1)⟩
             have n1_ : Aside0 (((((w31.setCell ⟨gb629, 0, none⟩ (.int .i64 t624)).setCell ⟨gb629, 1, none⟩ (.int .i64 t625)).setCell ⟨gb629, 2, none⟩ (.int .i64 t626)).setCell ⟨gb629, 3, none⟩ (.int .i64 t627)).heap[gb610]? = some (.cells #[.int .i64 t611, .int .i64 t612, .int .i64 t613, .int .i64 t614] 70 (0, 0))) := ⟨by (with_reducible repeat (first | refine blk_drewN ?_ _ | refine blk_drew ?_ | refine blk_alloc ?_ _)); refine blk_far ?_ NB610_629.out _; (with_reducible repeat (first | refine blk_drewN ?_ _ | refine blk_drew ?_ | refine blk_alloc ?_ _)); refine blk_far ?_ NB610_629.out _; (with_reducible repeat (first | refine blk_drewN ?_ _ | refine blk_drew ?_ | refine blk_alloc ?_ _)); refine blk_far ?_ NB610_629.out _; (with_reducible repeat (first | refine blk_drewN ?_ _ | refine blk_drew ?_ | refine blk_alloc ?_ _)); refine blk_far ?_ NB610_629.out _; (with_reducible repeat (first | refine blk_drewN ?_ _ | refine blk_drew ?_ | refine blk_alloc ?_ _)); exact BK610.out⟩
             have n2_ : Aside0 (((((w31.setCell ⟨gb629, 0, none⟩ (.int .i64 t624)).setCell ⟨gb629, 1, none⟩ (.int .i64 t625)).setCell ⟨gb629, 2, none⟩ (.int .i64 t626)).setCell ⟨gb629, 3, none⟩ (.int .i64 t627)).heap[gb629]? = some (.cells #[.int .i64 t624, .int .i64 t625, .int .i64 t626, .int .i64 t627] 30 (0, 0))) := ⟨by (with_reducible repeat (first | refine blk_drewN ?_ _ | refine blk_drew ?_ | refine blk_alloc ?_ _)); refine blk_put (cs := #[.int .i64 t624, .int .i64 t625, .int .i64 t626, .int .i64 0]) ?_ 3 _ rfl; (with_reducible repeat (first | refine blk_drewN ?_ _ | refine blk_drew ?_ | refine blk_alloc ?_ _)); refine blk_put (cs := #[.int .i64 t624, .int .i64 t625, .int .i64 0, .int .i64 0]) ?_ 2 _ rfl; (with_reducible repeat (first | refine blk_drewN ?_ _ | refine blk_drew ?_ | refine blk_alloc ?_ _)); refine blk_put (cs := #[.int .i64 t624, .int .i64 0, .int .i64 0, .int .i64 0]) ?_ 1 _ rfl; (with_reducible repeat (first | refine blk_drewN ?_ _ | refine blk_drew ?_ | refine blk_alloc ?_ _)); refine blk_put (cs := #[.int .i64 0, .int .i64 0, .int .i64 0, .int .i64 0]) ?_ 0 _ rfl; (with_reducible repeat (first | refine blk_drewN ?_ _ | refine blk_drew ?_ | refine blk_alloc ?_ _)); exact BK629.out⟩
             have n3_ : Aside0 (Kept w ((((w31.setCell ⟨gb629, 0, none⟩ (.int .i64 t624)).setCell ⟨gb629, 1, none⟩ (.int .i64 t625)).setCell ⟨gb629, 2, none⟩ (.int .i64 t626)).setCell ⟨gb629, 3, none⟩ (.int .i64 t627)) (fun k_ => P0_ k_)) := ⟨by repeat (first | (with_reducible first | exact HK.out | apply Kept.alloc | apply Kept.drewN | apply Kept.drew | refine Kept.setCell ?_ (.inr GW610.out) _ | refine Kept.setCell ?_ (.inr GW629.out) _) | exact HK.out)⟩
             have n4_ : Aside0 (Below w0.heap.size w0 ((((w31.setCell ⟨gb629, 0, none⟩ (.int .i64 t624)).setCell ⟨gb629, 1, none⟩ (.int .i64 t625)).setCell ⟨gb629, 2, none⟩ (.int .i64 t626)).setCell ⟨gb629, 3, none⟩ (.int .i64 t627))) := ⟨by repeat (first | (with_reducible first | exact HB.out | apply below_alloc | apply pw_below_drewN | apply below_drew1 | refine below_set ?_ GE610.out | refine below_set ?_ GE629.out) | exact HB.out)⟩
             (try clear HO_0)
             (try clear BK610)
             (try clear BK629)
             (try clear HK)
             (try clear HB)
             generalize ((((w31.setCell ⟨gb629, 0, none⟩ (.int .i64 t624)).setCell ⟨gb629, 1, none⟩ (.int .i64 t625)).setCell ⟨gb629, 2, none⟩ (.int .i64 t626)).setCell ⟨gb629, 3, none⟩ (.int .i64 t627)) = w36 at n0_ n1_ n2_ n3_ n4_ ⊢
             have HO_0 := n0_
             have BK610 := n1_
             have BK629 := n2_
             have HK := n3_
             have HB := n4_
             clear n0_ n1_ n2_ n3_ n4_
             have hnb37 := NB629_610.out
             have hnc37 := NB610_629.out
             have hcz38_0 : w36.cell? ⟨gb629, 0, none⟩ = some (.int .i64 t624) := (blk_cell BK629.out 0).trans rfl
             have hcz38_1 : w36.cell? ⟨gb629, 1, none⟩ = some (.int .i64 t625) := (blk_cell BK629.out 1).trans rfl
             have hcz38_2 : w36.cell? ⟨gb629, 2, none⟩ = some (.int .i64 t626) := (blk_cell BK629.out 2).trans rfl
             have hcz38_3 : w36.cell? ⟨gb629, 3, none⟩ = some (.int .i64 t627) := (blk_cell BK629.out 3).trans rfl
             have hfz38_0 := blk_frozen BK629.out 0
             have hfz38_1 := blk_frozen BK629.out 1
             have hfz38_2 := blk_frozen BK629.out 2
             have hfz38_3 := blk_frozen BK629.out 3
             have hcz39_0 : w36.cell? ⟨gb610, 0, none⟩ = some (.int .i64 t611) := (blk_cell BK610.out 0).trans rfl
             have hcz39_1 : w36.cell? ⟨gb610, 1, none⟩ = some (.int .i64 t612) := (blk_cell BK610.out 1).trans rfl
             have hcz39_2 : w36.cell? ⟨gb610, 2, none⟩ = some (.int .i64 t613) := (blk_cell BK610.out 2).trans rfl
             have hcz39_3 : w36.cell? ⟨gb610, 3, none⟩ = some (.int .i64 t614) := (blk_cell BK610.out 3).trans rfl
             have hfz39_0 := blk_frozen BK610.out 0
             have hfz39_1 := blk_frozen BK610.out 1
             have hfz39_2 := blk_frozen BK610.out 2
             have hfz39_3 := blk_frozen BK610.out 3
             try go_wp2_with (first | ((with_reducible refine gate_callee (f := 49) rfl ?_); refine goesL_ (some 55) rfl rfl Try.func49 (by kernel_rfl) rfl #[.slice Ao9 t615.length co9, .slice A1 l1.length c1, .slice A2 l2.length c2, .agg #[.int .i64 t611, .int .i64 t612, .int .i64 t613, .int .i64 t614]] rfl (by (try simp only [List.map_toArray, List.map_cons, List.map_nil]); first | done | rfl | (simp only [List.length_drop, List.length_take]; rfl)) ?_; (with_reducible refine (redlineref07_Least.calls kj5 (fun k_ => some k_ = (.slice Ao9 t615.length co9 : Value).ownBlock) (.slice Ao9 t615.length co9) t615 _ _ l1 _ _ l2 t611 t612 t613 t614 t630 w0 _ ?side1 ?side2 ?side3 ?side4 ?side5 ?side6 A25.out).mono ?_); (case side1 => repeat (first | (with_reducible first | exact HB.out | apply below_alloc | apply pw_below_drewN | apply below_drew1 | refine below_set ?_ GE610.out | refine below_set ?_ GE629.out) | exact HB.out)); (case side2 => exact Kd.R_tight rfl HO_0.out); (case side3 => exact Kd.C_kept_call HR1.out (by repeat (first | (with_reducible first | exact HK.out | apply Kept.alloc | apply Kept.drewN | apply Kept.drew | refine Kept.setCell ?_ (.inr GW610.out) _ | refine Kept.setCell ?_ (.inr GW629.out) _) | exact HK.out)) (fun k_ hs_ => (fun e_ => (HO_0.out.1 k_ e_.symm)) hs_)); (case side4 => exact HC1.out); (case side5 => exact Kd.C_kept_call HR2.out (by repeat (first | (with_reducible first | exact HK.out | apply Kept.alloc | apply Kept.drewN | apply Kept.drew | refine Kept.setCell ?_ (.inr GW610.out) _ | refine Kept.setCell ?_ (.inr GW629.out) _) | exact HK.out)) (fun k_ hs_ => (fun e_ => (HO_0.out.1 k_ e_.symm)) hs_)); (case side6 => exact HC2.out); rintro e w40 ⟨rfl, hy0, hb, hkp⟩; refine ⟨_, rfl, ?_⟩; have n0_ := Aside0.mk (Kd.R_reok rfl hy0 (fun k_ e_ => HO_0.out.1 k_ e_)); have n1_ := Aside0.mk (blk_kept (by (with_reducible repeat (first | refine blk_drewN ?_ _ | refine blk_drew ?_ | refine blk_alloc ?_ _)); exact BK610.out) hkp (fun hs_ => (fun e_ => (Kd.R_ne HO_0.out BK610.out (by decide)) e_) hs_)); have n2_ := Aside0.mk (blk_kept (by (with_reducible repeat (first | refine blk_drewN ?_ _ | refine blk_drew ?_ | refine blk_alloc ?_ _)); exact BK629.out) hkp (fun hs_ => (fun e_ => (Kd.R_ne HO_0.out BK629.out (by decide)) e_) hs_)); have n3_ := Aside0.mk (Kept.then_ (S := (fun k_ => P0_ k_)) (by repeat (first | (with_reducible first | exact HK.out | apply Kept.alloc | apply Kept.drewN | apply Kept.drew | refine Kept.setCell ?_ (.inr GW610.out) _ | refine Kept.setCell ?_ (.inr GW629.out) _) | exact HK.out)) hkp (fun k_ hs_ => (fun e_ => (HO_0.out.1 k_ e_.symm)) hs_)); have n4_ := Aside0.mk (hb); clear HO_0; clear BK610; clear BK629; clear HK; clear HB; have HO_0 := n0_; have BK610 := n1_; have BK629 := n2_; have HK := n3_; have HB := n4_; clear n0_ n1_ n2_ n3_ n4_; (try clear hb); (try clear hkp); (try clear hy0)))
             first | go_end0 | ((try simp only [Exit.inBlock, Exit.then]); refine bodyPost_ret (results_none rfl _ _ _) rfl ?_)
             exact ⟨by first | rfl | (simp [errW_none, errW_some] <;> rfl) | (simp [*, errW_none, errW_some] <;> rfl), (by first | exact (by (with_reducible repeat (first | apply Kd.R_alloc | apply Kd.R_drewN | apply Kd.R_drew)); exact HO_0.out) | (simp only [hl0_5]; exact (by (with_reducible repeat (first | apply Kd.R_alloc | apply Kd.R_drewN | apply Kd.R_drew)); exact HO_0.out))), by repeat (first | (with_reducible first | exact HB.out | apply below_alloc | apply pw_below_drewN | apply below_drew1 | refine below_set ?_ GE610.out | refine below_set ?_ GE629.out) | exact HB.out), by repeat (first | (with_reducible first | exact HK.out | apply Kept.alloc | apply Kept.drewN | apply Kept.drew | refine Kept.setCell ?_ (.inr GW610.out) _ | refine Kept.setCell ?_ (.inr GW629.out) _) | exact HK.out)⟩
            ·rw [if_neg c24] at H
             have c24b0 : decide (64 < t627) = false := decide_eq_false c24
             clear c24
             have H' := Aside0.mk H
             clear H
             try go_wp2
             have n0_ := Aside0.mk (Kd.R_drew HO_0.out)
             have n1_ := Aside0.mk (blk_drew BK610.out)
             have n2_ := Aside0.mk (Kept.drew HK.out)
             have n3_ := Aside0.mk (below_drew1 HB.out)
             clear HO_0
             clear BK610
             clear HK
             clear HB
             have HO_0 := n0_
             have BK610 := n1_
             have HK := n2_
             have HB := n3_
             clear n0_ n1_ n2_ n3_
             have q42 : (t612 : Int) ≤ ((l1.length : Int) : Int) := of_decide_eq_true (by first | (with_reducible assumption) | assumption)
             obtain ⟨i042, hi042, _, hsz42, _⟩ := info_parts info3
             have hroom42 : l1.length ≤ c1 := HC1.out
             have hC42 : Kd.C (Kd.int .i64) _ A1 l1.length l1 := (Kd.C_kept_now HR1.out HK.out)
             have ql42 : (t611 : Int) ≤ (t612 : Int) := of_decide_eq_true (by first | (with_reducible assumption) | assumption)
             have q042 : (0 : Int) ≤ (t611 : Int) := of_decide_eq_true (by first | (with_reducible assumption) | assumption)
             have hcut42 := cut_mid (P := Try.prog) 22 3 .i64 .i64 Try.underlying22 hi042 1 hsz42 A1 l1.length c1 t611 t612 q042 ql42 q42 hroom42
             have hr42 := Kd.C_mid (lo := (t611 : Int).toNat) (hi := (t612 : Int).toNat) (c := c1) hC42 (by omega) (by omega) hroom42
             obtain ⟨A42, hA42⟩ : ∃ Az_, Az_ = (if c1 = (t611 : Int).toNat then A1 else (A1 : Option Addr).map (·.add ((t611 : Int).toNat * 1))) := ⟨_, rfl⟩
             obtain ⟨c42, hc42⟩ : ∃ cz_, cz_ = c1 - (t611 : Int).toNat := ⟨_, rfl⟩
             have hy42 : y616.length = (t612 : Int).toNat - (t611 : Int).toNat := (by rw [Ny616.out, List.length_drop, List.length_take] <;> omega)
             rw [show ((l1).take (t612 : Int).toNat).drop (t611 : Int).toNat = y616 from Ny616.out.symm] at hr42
             replace hr42 : Kd.C (Kd.int .i64) _ A42 y616.length y616 := (by rw [hA42]; exact hr42)
             rw [← hy42, ← hA42, ← hc42] at hcut42
             have HR619 := Aside0.mk hr42
             have HC619 := Aside0.mk (show y616.length ≤ c42 from by rw [hy42, hc42]; exact Nat.sub_le_sub_right (Nat.le_trans (by omega) hroom42) _)
             clear hr42 hC42 hroom42 hi042 hsz42 hc42
             have KY42 := Aside0.mk hy42
             have KA42 := Aside0.mk hA42
             clear hy42 hA42
             have KL42 := Aside0.mk (show (t612 : Int).toNat ≤ l1.length from by omega)
             have KM42 := Aside0.mk (show (t611 : Int).toNat ≤ (t612 : Int).toNat from by omega)
             replace q42 := eq_true q42
             have q43 : (t614 : Int) ≤ ((l2.length : Int) : Int) := of_decide_eq_true (by first | (with_reducible assumption) | assumption)
             obtain ⟨i043, hi043, _, hsz43, _⟩ := info_parts info3
             have hroom43 : l2.length ≤ c2 := HC2.out
             have hC43 : Kd.C (Kd.int .i64) _ A2 l2.length l2 := (Kd.C_kept_now HR2.out HK.out)
             have ql43 : (t613 : Int) ≤ (t614 : Int) := of_decide_eq_true (by first | (with_reducible assumption) | assumption)
             have q043 : (0 : Int) ≤ (t613 : Int) := of_decide_eq_true (by first | (with_reducible assumption) | assumption)
             have hcut43 := cut_mid (P := Try.prog) 22 3 .i64 .i64 Try.underlying22 hi043 1 hsz43 A2 l2.length c2 t613 t614 q043 ql43 q43 hroom43
             have hr43 := Kd.C_mid (lo := (t613 : Int).toNat) (hi := (t614 : Int).toNat) (c := c2) hC43 (by omega) (by omega) hroom43
             obtain ⟨A43, hA43⟩ : ∃ A1, A1 = (if c2 = (t613 : Int).toNat then A2 else (A2 : Option Addr).map (·.add ((t613 : Int).toNat * 1))) := ⟨_, rfl⟩
             obtain ⟨c43, hc43⟩ : ∃ c1, c1 = c2 - (t613 : Int).toNat := ⟨_, rfl⟩
             have hy43 : y620.length = (t614 : Int).toNat - (t613 : Int).toNat := (by rw [Ny620.out, List.length_drop, List.length_take] <;> omega)
             rw [show ((l2).take (t614 : Int).toNat).drop (t613 : Int).toNat = y620 from Ny620.out.symm] at hr43
             replace hr43 : Kd.C (Kd.int .i64) _ A43 y620.length y620 := (by rw [hA43]; exact hr43)
             rw [← hy43, ← hA43, ← hc43] at hcut43
             have HR623 := Aside0.mk hr43
             have HC623 := Aside0.mk (show y620.length ≤ c43 from by rw [hy43, hc43]; exact Nat.sub_le_sub_right (Nat.le_trans (by omega) hroom43) _)
             clear hr43 hC43 hroom43 hi043 hsz43 hc43
             have KY43 := Aside0.mk hy43
             have KA43 := Aside0.mk hA43
             clear hy43 hA43
             have KL43 := Aside0.mk (show (t614 : Int).toNat ≤ l2.length from by omega)
             have KM43 := Aside0.mk (show (t613 : Int).toNat ≤ (t614 : Int).toNat from by omega)
             replace q43 := eq_true q43
             refine start_ (n := 19) (S := fun w' => w'.cell? ⟨gb610, 0, none⟩ = some (.int .i64 t611) ∧ w'.cell? ⟨gb610, 1, none⟩ = some (.int .i64 t612) ∧ w'.cell? ⟨gb610, 2, none⟩ = some (.int .i64 t613) ∧ w'.cell? ⟨gb610, 3, none⟩ = some (.int .i64 t614)) (ds := []) #[false, false, false, false, false, false, false, false, false, false, false, false, false, false, false, false, false, false, false] (by kernel_rfl) rfl rfl ⟨(blk_cell BK610.out 0).trans rfl, (blk_cell BK610.out 1).trans rfl, (blk_cell BK610.out 2).trans rfl, (blk_cell BK610.out 3).trans rfl⟩ (fun hHeld => ?_); refine with_tabW redlineref08_piece.tab3 redlineref08_piece.bits3 (fun HT_ HW_ => ?_)
             generalize wc.drew = w41 at HO_0 BK610 HK HB HR619 HR623 hHeld ⊢
             refine pw_ 0 31 (ar 19 1) HT_.out ?_
             refine pw_ 1 32 (ar 19 2) HT_.out ?_
             refine pw_ 3 34 #[true, true, false, true, false, false, false, false, false, false, false, false, false, false, false, false, false, false, false] HT_.out ?_
             refine pw_ 6 37 #[true, true, false, true, false, false, true, false, false, false, false, false, false, false, false, false, false, false, false] HT_.out ?_
             refine pw_ 7 38 #[true, true, false, true, false, false, true, true, false, false, false, false, false, false, false, false, false, false, false] HT_.out ?_
             refine pw_ 9 40 #[true, true, false, true, false, false, true, true, false, true, false, false, false, false, false, false, false, false, false] HT_.out ?_
             refine take_ (i := 2) (N := some 33) (v := ?_) (a' := ?_) #[true, true, true, true, false, false, true, true, false, true, false, false, false, false, false, false, false, false, false] rfl rfl (take_ofW HT_.out HW_.out (by kernel_rfl)) (fun _ _ _ h => h) (Or.inl ⟨by rfl, ?_⟩) hHeld ?_ ?_
             rotate_left
             ·rintro w' ⟨s0, s1, s2, s3⟩
              go_simp
              with_reducible rfl
             rotate_left
             ·simp only [Act.put, List.setIfInBounds_toArray, List.set_cons_zero, List.set_cons_succ, i64_w, i32_w]
              rfl
             refine take_ (i := 4) (N := some 35) (v := ?_) (a' := ?_) #[true, true, true, true, true, false, true, true, false, true, false, false, false, false, false, false, false, false, false] rfl rfl (take_ofW HT_.out HW_.out (by kernel_rfl)) (fun _ _ _ h => h) (Or.inl ⟨by rfl, ?_⟩) hHeld ?_ ?_
             rotate_left
             ·rintro w' ⟨s0, s1, s2, s3⟩
              go_simp
              with_reducible rfl
             rotate_left
             ·simp only [Act.put, List.setIfInBounds_toArray, List.set_cons_zero, List.set_cons_succ, i64_w, i32_w]
              rfl
             refine pw_ 5 36 #[true, true, true, true, true, true, true, true, false, true, false, false, false, false, false, false, false, false, false] HT_.out ?_
             refine take_ (i := 8) (N := some 39) (v := ?_) (a' := ?_) (ar 19 10) rfl rfl (take_ofW HT_.out HW_.out (by kernel_rfl)) (fun _ _ _ h => h) (Or.inl ⟨by rfl, ?_⟩) hHeld ?_ ?_
             rotate_left
             ·rintro w' ⟨s0, s1, s2, s3⟩
              go_simp
              with_reducible rfl
             rotate_left
             ·simp only [Act.put, List.setIfInBounds_toArray, List.set_cons_zero, List.set_cons_succ, i64_w, i32_w]
              rfl
             refine take_ (i := 10) (N := some 41) (v := ?_) (a' := ?_) (ar 19 11) rfl rfl (take_ofW HT_.out HW_.out (by kernel_rfl)) (fun _ _ _ h => h) (Or.inl ⟨by rfl, ?_⟩) hHeld ?_ ?_
             rotate_left
             ·rintro w' ⟨s0, s1, s2, s3⟩
              go_simp
              with_reducible rfl
             rotate_left
             ·simp only [Act.put, List.setIfInBounds_toArray, List.set_cons_zero, List.set_cons_succ, i64_w, i32_w]
              rfl
             refine pw_ 11 42 (ar 19 12) HT_.out ?_
             refine join_ (σ := Nat) 2 (ar 19 17) (fun s_ => [(43, .tuple #[.agg #[.int .i64 t624, .int .i64 t625, .int .i64 t626, .int .i64 t627], .bool true]), (8, .pointer (some ⟨s_, 0, none⟩)), (30, .tuple #[.agg #[.int .i64 t624, .int .i64 t625, .int .i64 t626, .int .i64 t627], .bool true]), (44, .agg #[.int .i64 t624, .int .i64 t625, .int .i64 t626, .int .i64 t627]), (45, .bool true)]) (fun s_ w' => (w'.cell? ⟨gb610, 0, none⟩ = some (.int .i64 t611) ∧ w'.cell? ⟨gb610, 1, none⟩ = some (.int .i64 t612) ∧ w'.cell? ⟨gb610, 2, none⟩ = some (.int .i64 t613) ∧ w'.cell? ⟨gb610, 3, none⟩ = some (.int .i64 t614)) ∧ (Kd.R (Kd.int .i64) 3 w' w0.heap.size (fun k_ => (P0_ k_ ∨ w.heap.size ≤ k_)) (.slice Ao9 t615.length co9) t615) ∧ (w'.heap[gb610]? = some (.cells #[.int .i64 t611, .int .i64 t612, .int .i64 t613, .int .i64 t614] 70 (0, 0))) ∧ (w'.heap[s_]? = some (.cells #[.int .i64 0, .int .i64 0, .int .i64 0, .int .i64 0] 30 (0, 0))) ∧ (w.heap.size ≤ s_) ∧ (w0.heap.size ≤ s_) ∧ (gb610 ≠ s_) ∧ (s_ ≠ gb610) ∧ (Kept w w' (fun k_ => P0_ k_)) ∧ (Below w0.heap.size w0 w')) ?_ ?_
             rotate_left
             ·intro hCont
              refine two_ (i := 12) (j := 16) (Ni := some 43) (Nj := some 8) (ar 19 13) #[true, true, true, true, true, true, true, true, true, true, true, true, false, false, false, false, true, false, false] rfl rfl rfl rfl (two_of HT_.out (by kernel_rfl)) (by decide) (by decide) (fun K hK => ?_) (fun K hK => ?_)
              ·skip
               refine goes_ Try.func19 (by kernel_rfl) rfl #[.slice A42 y616.length c42, .slice A43 y620.length c43] (by rfl) rfl rfl (by (try simp only [List.map_toArray, List.map_cons, List.map_nil]); first | done | rfl | (simp only [List.length_drop, List.length_take]; rfl)) ?_
               with_reducible refine (redlineref08_Best.calls kj5 _ _ y616 _ _ y620 t624 t625 t626 t627 true _ ?side1 ?side2 ?side3 ?side4 A22.out).mono ?_
               (case side1 => repeat (first | exact (by repeat (first | (with_reducible exact HR619.out) | (with_reducible refine Kd.C_alloc ?_ _) | (with_reducible refine Kd.C_drewN ?_ _) | (with_reducible refine Kd.C_drew ?_) | exact HR619.out)) | (with_reducible refine Kd.C_alloc ?_ _) | (with_reducible refine Kd.C_drewN ?_ _) | (with_reducible refine Kd.C_drew ?_)))
               (case side2 => exact HC619.out)
               (case side3 => repeat (first | exact (by repeat (first | (with_reducible exact HR623.out) | (with_reducible refine Kd.C_alloc ?_ _) | (with_reducible refine Kd.C_drewN ?_ _) | (with_reducible refine Kd.C_drew ?_) | exact HR623.out)) | (with_reducible refine Kd.C_alloc ?_ _) | (with_reducible refine Kd.C_drewN ?_ _) | (with_reducible refine Kd.C_drew ?_)))
               (case side4 => exact HC623.out)
               rintro e w44 ⟨rfl, hb⟩
               refine ⟨_, rfl, ?_⟩
               have n0_ := Aside0.mk (Kd.R_below (by (with_reducible repeat (first | apply Kd.R_alloc | apply Kd.R_drewN | apply Kd.R_drew)); exact HO_0.out) hb)
               have n1_ := Aside0.mk (blk_below (g := gb610) (o := .cells #[.int .i64 t611, .int .i64 t612, .int .i64 t613, .int .i64 t614] 70 (0, 0)) (by (with_reducible repeat (first | refine blk_drewN ?_ _ | refine blk_drew ?_ | refine blk_alloc ?_ _)); exact BK610.out) hb)
               have n2_ := Aside0.mk (Kd.C_below (by repeat (first | (with_reducible exact HR619.out) | (with_reducible refine Kd.C_alloc ?_ _) | (with_reducible refine Kd.C_drewN ?_ _) | (with_reducible refine Kd.C_drew ?_) | exact HR619.out)) hb)
               have n3_ := Aside0.mk (Kd.C_below (by repeat (first | (with_reducible exact HR623.out) | (with_reducible refine Kd.C_alloc ?_ _) | (with_reducible refine Kd.C_drewN ?_ _) | (with_reducible refine Kd.C_drew ?_) | exact HR623.out)) hb)
               have n4_ := Aside0.mk (Kept.below (S := (fun k_ => P0_ k_)) (by repeat (first | (with_reducible first | exact HK.out | apply Kept.alloc | apply Kept.drewN | apply Kept.drew | refine Kept.setCell ?_ (.inr GW610.out) _) | exact HK.out)) hb)
               have n5_ := Aside0.mk (below_step (by repeat (first | (with_reducible first | exact HB.out | apply below_alloc | apply pw_below_drewN | apply below_drew1 | refine below_set ?_ GE610.out) | exact HB.out)) hb)
               clear HO_0
               clear BK610
               clear HR619
               clear HR623
               clear HK
               clear HB
               have HO_0 := n0_
               have BK610 := n1_
               have HR619 := n2_
               have HR623 := n3_
               have HK := n4_
               have HB := n5_
               clear n0_ n1_ n2_ n3_ n4_ n5_
               (try clear hb)
               (try clear hb2)
               (try clear hk)
               (try clear hi)
               refine hK.out _ _ ⟨(blk_cell BK610.out 0).trans rfl, (blk_cell BK610.out 1).trans rfl, (blk_cell BK610.out 2).trans rfl, (blk_cell BK610.out 3).trans rfl⟩ (fun hHeld => ?_)
               clear hK K
               refine norm_ (a' := ?_) ?_ ?_
               rotate_left
               ·show Act.put _ (some 43) _ = _
                simp only [Act.put, List.setIfInBounds_toArray, List.set_cons_zero, List.set_cons_succ, i64_w, i32_w]
                rfl
               refine pw_ 13 30 (ar 19 14) HT_.out ?_
               refine pw_ 14 44 (ar 19 15) HT_.out ?_
               refine pw_ 15 45 (ar 19 16) HT_.out ?_
               refine one_ (i := 16) (N := some 8) (ar 19 17) rfl rfl (one_of HT_.out (by kernel_rfl)) (by decide) (fun K hK => ?_)
               refine box_step ?hg (N := 8) ?hd (cs := #[.int .i64 0, .int .i64 0, .int .i64 0, .int .i64 0]) (t := 30) ?hr ?_; (case hd => rfl); (case hg => rfl); (case hr => first | (go_simp; done) | (go_simp; rfl))
               intro gb629 hg w45 hbox hb
               have n0_ := Aside0.mk (Kd.R_below (by (with_reducible repeat (first | apply Kd.R_alloc | apply Kd.R_drewN | apply Kd.R_drew)); exact HO_0.out) hb)
               have n1_ := Aside0.mk (blk_below (g := gb610) (o := .cells #[.int .i64 t611, .int .i64 t612, .int .i64 t613, .int .i64 t614] 70 (0, 0)) (by (with_reducible repeat (first | refine blk_drewN ?_ _ | refine blk_drew ?_ | refine blk_alloc ?_ _)); exact BK610.out) hb)
               have n2_ := Aside0.mk (Kd.C_below (by repeat (first | (with_reducible exact HR619.out) | (with_reducible refine Kd.C_alloc ?_ _) | (with_reducible refine Kd.C_drewN ?_ _) | (with_reducible refine Kd.C_drew ?_) | exact HR619.out)) hb)
               have n3_ := Aside0.mk (Kd.C_below (by repeat (first | (with_reducible exact HR623.out) | (with_reducible refine Kd.C_alloc ?_ _) | (with_reducible refine Kd.C_drewN ?_ _) | (with_reducible refine Kd.C_drew ?_) | exact HR623.out)) hb)
               have n4_ := Aside0.mk (Kept.below (S := (fun k_ => P0_ k_)) (by repeat (first | (with_reducible first | exact HK.out | apply Kept.alloc | apply Kept.drewN | apply Kept.drew | refine Kept.setCell ?_ (.inr GW610.out) _) | exact HK.out)) hb)
               have n5_ := Aside0.mk (below_step (by repeat (first | (with_reducible first | exact HB.out | apply below_alloc | apply pw_below_drewN | apply below_drew1 | refine below_set ?_ GE610.out) | exact HB.out)) hb)
               have n6_ := Aside0.mk (hbox)
               have n7_ := Aside0.mk ((by rw [hg]; exact (by first | exact HK.out.1 | exact (show Kept w _ (fun k_ => P0_ k_) from by repeat (first | (with_reducible first | exact HK.out | apply Kept.alloc | apply Kept.drewN | apply Kept.drew | refine Kept.setCell ?_ (.inr GW610.out) _) | exact HK.out)).1) : w.heap.size ≤ gb629))
               have n8_ := Aside0.mk ((by rw [hg]; exact (below_size (by repeat (first | (with_reducible first | exact HB.out | apply below_alloc | apply pw_below_drewN | apply below_drew1 | refine below_set ?_ GE610.out) | exact HB.out))) : w0.heap.size ≤ gb629))
               have n9_ := Aside0.mk ((by rw [hg]; exact Nat.ne_of_lt (blk_lt (g := gb610) (o := .cells #[.int .i64 t611, .int .i64 t612, .int .i64 t613, .int .i64 t614] 70 (0, 0)) (by (with_reducible repeat (first | refine blk_drewN ?_ _ | refine blk_drew ?_ | refine blk_alloc ?_ _)); exact BK610.out)) : gb610 ≠ gb629))
               have n10_ := Aside0.mk ((by rw [hg]; exact Nat.ne_of_gt (blk_lt (g := gb610) (o := .cells #[.int .i64 t611, .int .i64 t612, .int .i64 t613, .int .i64 t614] 70 (0, 0)) (by (with_reducible repeat (first | refine blk_drewN ?_ _ | refine blk_drew ?_ | refine blk_alloc ?_ _)); exact BK610.out)) : gb629 ≠ gb610))
               clear HO_0
               clear BK610
               clear HR619
               clear HR623
               clear HK
               clear HB
               have HO_0 := n0_
               have BK610 := n1_
               have HR619 := n2_
               have HR623 := n3_
               have HK := n4_
               have HB := n5_
               have BK629 := n6_
               have GW629 := n7_
               have GE629 := n8_
               have NB610_629 := n9_
               have NB629_610 := n10_
               clear n0_ n1_ n2_ n3_ n4_ n5_ n6_ n7_ n8_ n9_ n10_
               clear hb hbox hg
               refine hK.out _ _ ⟨(blk_cell BK610.out 0).trans rfl, (blk_cell BK610.out 1).trans rfl, (blk_cell BK610.out 2).trans rfl, (blk_cell BK610.out 3).trans rfl⟩ (fun hHeld => ?_)
               clear hK K
               refine norm_ (a' := ?_) ?_ ?_
               rotate_left
               ·show Act.put _ (some 8) _ = _
                simp only [Act.put, List.setIfInBounds_toArray, List.set_cons_zero, List.set_cons_succ, i64_w, i32_w]
                rfl
               exact norm_ (by simp only [putAll, Act.put, List.setIfInBounds_toArray, List.set_cons_zero, List.set_cons_succ]) (hCont (gb629) _ ⟨hHeld, (by (with_reducible repeat (first | apply Kd.R_alloc | apply Kd.R_drewN | apply Kd.R_drew)); exact HO_0.out), (by (with_reducible repeat (first | refine blk_drewN ?_ _ | refine blk_drew ?_ | refine blk_alloc ?_ _)); exact BK610.out), (by (with_reducible repeat (first | refine blk_drewN ?_ _ | refine blk_drew ?_ | refine blk_alloc ?_ _)); exact BK629.out), GW629.out, GE629.out, NB610_629.out, NB629_610.out, (by repeat (first | (with_reducible first | exact HK.out | apply Kept.alloc | apply Kept.drewN | apply Kept.drew | refine Kept.setCell ?_ (.inr GW610.out) _ | refine Kept.setCell ?_ (.inr GW629.out) _) | exact HK.out)), (by repeat (first | (with_reducible first | exact HB.out | apply below_alloc | apply pw_below_drewN | apply below_drew1 | refine below_set ?_ GE610.out | refine below_set ?_ GE629.out) | exact HB.out))⟩)
              ·skip
               refine box_step ?hg (N := 8) ?hd (cs := #[.int .i64 0, .int .i64 0, .int .i64 0, .int .i64 0]) (t := 30) ?hr ?_; (case hd => rfl); (case hg => rfl); (case hr => first | (go_simp; done) | (go_simp; rfl))
               intro gb629 hg w44 hbox hb
               have n0_ := Aside0.mk (Kd.R_below (by (with_reducible repeat (first | apply Kd.R_alloc | apply Kd.R_drewN | apply Kd.R_drew)); exact HO_0.out) hb)
               have n1_ := Aside0.mk (blk_below (g := gb610) (o := .cells #[.int .i64 t611, .int .i64 t612, .int .i64 t613, .int .i64 t614] 70 (0, 0)) (by (with_reducible repeat (first | refine blk_drewN ?_ _ | refine blk_drew ?_ | refine blk_alloc ?_ _)); exact BK610.out) hb)
               have n2_ := Aside0.mk (Kd.C_below (by repeat (first | (with_reducible exact HR619.out) | (with_reducible refine Kd.C_alloc ?_ _) | (with_reducible refine Kd.C_drewN ?_ _) | (with_reducible refine Kd.C_drew ?_) | exact HR619.out)) hb)
               have n3_ := Aside0.mk (Kd.C_below (by repeat (first | (with_reducible exact HR623.out) | (with_reducible refine Kd.C_alloc ?_ _) | (with_reducible refine Kd.C_drewN ?_ _) | (with_reducible refine Kd.C_drew ?_) | exact HR623.out)) hb)
               have n4_ := Aside0.mk (Kept.below (S := (fun k_ => P0_ k_)) (by repeat (first | (with_reducible first | exact HK.out | apply Kept.alloc | apply Kept.drewN | apply Kept.drew | refine Kept.setCell ?_ (.inr GW610.out) _) | exact HK.out)) hb)
               have n5_ := Aside0.mk (below_step (by repeat (first | (with_reducible first | exact HB.out | apply below_alloc | apply pw_below_drewN | apply below_drew1 | refine below_set ?_ GE610.out) | exact HB.out)) hb)
               have n6_ := Aside0.mk (hbox)
               have n7_ := Aside0.mk ((by rw [hg]; exact (by first | exact HK.out.1 | exact (show Kept w _ (fun k_ => P0_ k_) from by repeat (first | (with_reducible first | exact HK.out | apply Kept.alloc | apply Kept.drewN | apply Kept.drew | refine Kept.setCell ?_ (.inr GW610.out) _) | exact HK.out)).1) : w.heap.size ≤ gb629))
               have n8_ := Aside0.mk ((by rw [hg]; exact (below_size (by repeat (first | (with_reducible first | exact HB.out | apply below_alloc | apply pw_below_drewN | apply below_drew1 | refine below_set ?_ GE610.out) | exact HB.out))) : w0.heap.size ≤ gb629))
               have n9_ := Aside0.mk ((by rw [hg]; exact Nat.ne_of_lt (blk_lt (g := gb610) (o := .cells #[.int .i64 t611, .int .i64 t612, .int .i64 t613, .int .i64 t614] 70 (0, 0)) (by (with_reducible repeat (first | refine blk_drewN ?_ _ | refine blk_drew ?_ | refine blk_alloc ?_ _)); exact BK610.out)) : gb610 ≠ gb629))
               have n10_ := Aside0.mk ((by rw [hg]; exact Nat.ne_of_gt (blk_lt (g := gb610) (o := .cells #[.int .i64 t611, .int .i64 t612, .int .i64 t613, .int .i64 t614] 70 (0, 0)) (by (with_reducible repeat (first | refine blk_drewN ?_ _ | refine blk_drew ?_ | refine blk_alloc ?_ _)); exact BK610.out)) : gb629 ≠ gb610))
               clear HO_0
               clear BK610
               clear HR619
               clear HR623
               clear HK
               clear HB
               have HO_0 := n0_
               have BK610 := n1_
               have HR619 := n2_
               have HR623 := n3_
               have HK := n4_
               have HB := n5_
               have BK629 := n6_
               have GW629 := n7_
               have GE629 := n8_
               have NB610_629 := n9_
               have NB629_610 := n10_
               clear n0_ n1_ n2_ n3_ n4_ n5_ n6_ n7_ n8_ n9_ n10_
               clear hb hbox hg
               refine hK.out _ _ ⟨(blk_cell BK610.out 0).trans rfl, (blk_cell BK610.out 1).trans rfl, (blk_cell BK610.out 2).trans rfl, (blk_cell BK610.out 3).trans rfl⟩ (fun hHeld => ?_)
               clear hK K
               refine norm_ (a' := ?_) ?_ ?_
               rotate_left
               ·show Act.put _ (some 8) _ = _
                simp only [Act.put, List.setIfInBounds_toArray, List.set_cons_zero, List.set_cons_succ, i64_w, i32_w]
                rfl
               refine one_ (i := 12) (N := some 43) #[true, true, true, true, true, true, true, true, true, true, true, true, true, false, false, false, true, false, false] rfl rfl (one_of HT_.out (by kernel_rfl)) (by decide) (fun K hK => ?_)
               refine goes_ Try.func19 (by kernel_rfl) rfl #[.slice A42 y616.length c42, .slice A43 y620.length c43] (by rfl) rfl rfl (by (try simp only [List.map_toArray, List.map_cons, List.map_nil]); first | done | rfl | (simp only [List.length_drop, List.length_take]; rfl)) ?_
               with_reducible refine (redlineref08_Best.calls kj5 _ _ y616 _ _ y620 t624 t625 t626 t627 true _ ?side1 ?side2 ?side3 ?side4 A22.out).mono ?_
               (case side1 => repeat (first | exact (by repeat (first | (with_reducible exact HR619.out) | (with_reducible refine Kd.C_alloc ?_ _) | (with_reducible refine Kd.C_drewN ?_ _) | (with_reducible refine Kd.C_drew ?_) | exact HR619.out)) | (with_reducible refine Kd.C_alloc ?_ _) | (with_reducible refine Kd.C_drewN ?_ _) | (with_reducible refine Kd.C_drew ?_)))
               (case side2 => exact HC619.out)
               (case side3 => repeat (first | exact (by repeat (first | (with_reducible exact HR623.out) | (with_reducible refine Kd.C_alloc ?_ _) | (with_reducible refine Kd.C_drewN ?_ _) | (with_reducible refine Kd.C_drew ?_) | exact HR623.out)) | (with_reducible refine Kd.C_alloc ?_ _) | (with_reducible refine Kd.C_drewN ?_ _) | (with_reducible refine Kd.C_drew ?_)))
               (case side4 => exact HC623.out)
               rintro e w45 ⟨rfl, hb⟩
               refine ⟨_, rfl, ?_⟩
               have n0_ := Aside0.mk (Kd.R_below (by (with_reducible repeat (first | apply Kd.R_alloc | apply Kd.R_drewN | apply Kd.R_drew)); exact HO_0.out) hb)
               have n1_ := Aside0.mk (blk_below (g := gb610) (o := .cells #[.int .i64 t611, .int .i64 t612, .int .i64 t613, .int .i64 t614] 70 (0, 0)) (by (with_reducible repeat (first | refine blk_drewN ?_ _ | refine blk_drew ?_ | refine blk_alloc ?_ _)); exact BK610.out) hb)
               have n2_ := Aside0.mk (Kd.C_below (by repeat (first | (with_reducible exact HR619.out) | (with_reducible refine Kd.C_alloc ?_ _) | (with_reducible refine Kd.C_drewN ?_ _) | (with_reducible refine Kd.C_drew ?_) | exact HR619.out)) hb)
               have n3_ := Aside0.mk (Kd.C_below (by repeat (first | (with_reducible exact HR623.out) | (with_reducible refine Kd.C_alloc ?_ _) | (with_reducible refine Kd.C_drewN ?_ _) | (with_reducible refine Kd.C_drew ?_) | exact HR623.out)) hb)
               have n4_ := Aside0.mk (blk_below (g := gb629) (o := .cells #[.int .i64 0, .int .i64 0, .int .i64 0, .int .i64 0] 30 (0, 0)) (by (with_reducible repeat (first | refine blk_drewN ?_ _ | refine blk_drew ?_ | refine blk_alloc ?_ _)); exact BK629.out) hb)
               have n5_ := Aside0.mk (Kept.below (S := (fun k_ => P0_ k_)) (by repeat (first | (with_reducible first | exact HK.out | apply Kept.alloc | apply Kept.drewN | apply Kept.drew | refine Kept.setCell ?_ (.inr GW610.out) _ | refine Kept.setCell ?_ (.inr GW629.out) _) | exact HK.out)) hb)
               have n6_ := Aside0.mk (below_step (by repeat (first | (with_reducible first | exact HB.out | apply below_alloc | apply pw_below_drewN | apply below_drew1 | refine below_set ?_ GE610.out | refine below_set ?_ GE629.out) | exact HB.out)) hb)
               clear HO_0
               clear BK610
               clear HR619
               clear HR623
               clear BK629
               clear HK
               clear HB
               have HO_0 := n0_
               have BK610 := n1_
               have HR619 := n2_
               have HR623 := n3_
               have BK629 := n4_
               have HK := n5_
               have HB := n6_
               clear n0_ n1_ n2_ n3_ n4_ n5_ n6_
               (try clear hb)
               (try clear hb2)
               (try clear hk)
               (try clear hi)
               refine hK.out _ _ ⟨(blk_cell BK610.out 0).trans rfl, (blk_cell BK610.out 1).trans rfl, (blk_cell BK610.out 2).trans rfl, (blk_cell BK610.out 3).trans rfl⟩ (fun hHeld => ?_)
               clear hK K
               refine norm_ (a' := ?_) ?_ ?_
               rotate_left
               ·show Act.put _ (some 43) _ = _
                simp only [Act.put, List.setIfInBounds_toArray, List.set_cons_zero, List.set_cons_succ, i64_w, i32_w]
                rfl
               refine pw_ 13 30 #[true, true, true, true, true, true, true, true, true, true, true, true, true, true, false, false, true, false, false] HT_.out ?_
               refine pw_ 14 44 #[true, true, true, true, true, true, true, true, true, true, true, true, true, true, true, false, true, false, false] HT_.out ?_
               refine pw_ 15 45 (ar 19 17) HT_.out ?_
               exact norm_ (by simp only [putAll, Act.put, List.setIfInBounds_toArray, List.set_cons_zero, List.set_cons_succ]) (hCont (gb629) _ ⟨hHeld, (by (with_reducible repeat (first | apply Kd.R_alloc | apply Kd.R_drewN | apply Kd.R_drew)); exact HO_0.out), (by (with_reducible repeat (first | refine blk_drewN ?_ _ | refine blk_drew ?_ | refine blk_alloc ?_ _)); exact BK610.out), (by (with_reducible repeat (first | refine blk_drewN ?_ _ | refine blk_drew ?_ | refine blk_alloc ?_ _)); exact BK629.out), GW629.out, GE629.out, NB610_629.out, NB629_610.out, (by repeat (first | (with_reducible first | exact HK.out | apply Kept.alloc | apply Kept.drewN | apply Kept.drew | refine Kept.setCell ?_ (.inr GW610.out) _ | refine Kept.setCell ?_ (.inr GW629.out) _) | exact HK.out)), (by repeat (first | (with_reducible first | exact HB.out | apply below_alloc | apply pw_below_drewN | apply below_drew1 | refine below_set ?_ GE610.out | refine below_set ?_ GE629.out) | exact HB.out))⟩)
             rintro gb629 w46 ⟨hS_, h0_, h1_, h2_, h3_, h4_, h5_, h6_, h7_, h8_⟩
             have n0_ : Aside0 (Kd.R (Kd.int .i64) 3 w46 w0.heap.size (fun k_ => (P0_ k_ ∨ w.heap.size ≤ k_)) (.slice Ao9 t615.length co9) t615) := ⟨h0_⟩
             have n1_ : Aside0 (w46.heap[gb610]? = some (.cells #[.int .i64 t611, .int .i64 t612, .int .i64 t613, .int .i64 t614] 70 (0, 0))) := ⟨h1_⟩
             have n2_ : Aside0 (w46.heap[gb629]? = some (.cells #[.int .i64 0, .int .i64 0, .int .i64 0, .int .i64 0] 30 (0, 0))) := ⟨h2_⟩
             have n3_ : Aside0 (w.heap.size ≤ gb629) := ⟨h3_⟩
             have n4_ : Aside0 (w0.heap.size ≤ gb629) := ⟨h4_⟩
             have n5_ : Aside0 (gb610 ≠ gb629) := ⟨h5_⟩
             have n6_ : Aside0 (gb629 ≠ gb610) := ⟨h6_⟩
             have n7_ : Aside0 (Kept w w46 (fun k_ => P0_ k_)) := ⟨h7_⟩
             have n8_ : Aside0 (Below w0.heap.size w0 w46) := ⟨h8_⟩
             clear HO_0
             clear BK610
             clear HK
             clear HB
             clear h0_ h1_ h2_ h3_ h4_ h5_ h6_ h7_ h8_
             have HO_0 := n0_
             have BK610 := n1_
             have BK629 := n2_
             have GW629 := n3_
             have GE629 := n4_
             have NB610_629 := n5_
             have NB629_610 := n6_
             have HK := n7_
             have HB := n8_
             clear n0_ n1_ n2_ n3_ n4_ n5_ n6_ n7_ n8_
             have hHeld : w46.cell? ⟨gb610, 0, none⟩ = some (.int .i64 t611) ∧ w46.cell? ⟨gb610, 1, none⟩ = some (.int .i64 t612) ∧ w46.cell? ⟨gb610, 2, none⟩ = some (.int .i64 t613) ∧ w46.cell? ⟨gb610, 3, none⟩ = some (.int .i64 t614) := hS_
             refine norm_ (a' := ?_) ?_ ?_
             rotate_left
             ·simp only [putAll, Act.put, List.setIfInBounds_toArray, List.set_cons_zero, List.set_cons_succ]
              rfl
             refine one_ (i := 17) (N := none) (ar 19 18) rfl rfl (one_of HT_.out (by kernel_rfl)) (by decide) (fun K hK => ?_)
             have hs47 : w46.cell? ⟨gb629, 0, none⟩ = some (.int .i64 0) := (blk_cell BK629.out 0).trans rfl
             have hfs47 := blk_frozen BK629.out 0
             have hns47_0 := NB610_629.out
             have hms47_0 := NB629_610.out
             have hs48 : w46.cell? ⟨gb629, 1, none⟩ = some (.int .i64 0) := (blk_cell BK629.out 1).trans rfl
             have hfs48 := blk_frozen BK629.out 1
             have hns48_0 := NB610_629.out
             have hms48_0 := NB629_610.out
             have hs49 : w46.cell? ⟨gb629, 2, none⟩ = some (.int .i64 0) := (blk_cell BK629.out 2).trans rfl
             have hfs49 := blk_frozen BK629.out 2
             have hns49_0 := NB610_629.out
             have hms49_0 := NB629_610.out
             have hs50 : w46.cell? ⟨gb629, 3, none⟩ = some (.int .i64 0) := (blk_cell BK629.out 3).trans rfl
             have hfs50 := blk_frozen BK629.out 3
             have hns50_0 := NB610_629.out
             have hms50_0 := NB629_610.out
             refine skip_ (w1 := ?_) (by rfl) rfl ?_ ?_
             rotate_left
             ·go_simp
              rfl
             refine hK.out _ _ ⟨((cell_far (p := ⟨gb629, _, none⟩) NB610_629.out _).trans (((cell_far (p := ⟨gb629, _, none⟩) NB610_629.out _).trans (((cell_far (p := ⟨gb629, _, none⟩) NB610_629.out _).trans (((cell_far (p := ⟨gb629, _, none⟩) NB610_629.out _).trans (hHeld.1)))))))), ((cell_far (p := ⟨gb629, _, none⟩) NB610_629.out _).trans (((cell_far (p := ⟨gb629, _, none⟩) NB610_629.out _).trans (((cell_far (p := ⟨gb629, _, none⟩) NB610_629.out _).trans (((cell_far (p := ⟨gb629, _, none⟩) NB610_629.out _).trans (hHeld.2.1)))))))), ((cell_far (p := ⟨gb629, _, none⟩) NB610_629.out _).trans (((cell_far (p := ⟨gb629, _, none⟩) NB610_629.out _).trans (((cell_far (p := ⟨gb629, _, none⟩) NB610_629.out _).trans (((cell_far (p := ⟨gb629, _, none⟩) NB610_629.out _).trans (hHeld.2.2.1)))))))), ((cell_far (p := ⟨gb629, _, none⟩) NB610_629.out _).trans (((cell_far (p := ⟨gb629, _, none⟩) NB610_629.out _).trans (((cell_far (p := ⟨gb629, _, none⟩) NB610_629.out _).trans (((cell_far (p := ⟨gb629, _, none⟩) NB610_629.out _).trans (hHeld.2.2.2))))))))⟩ (fun hHeld => ?_)
             clear hK K
             refine pw_ 18 9 (ar 19 19) HT_.out ?_
             refine done_ (done_of HT_.out (by kernel_rfl)) ?_
             have hnb51 := NB629_610.out
             have hnc51 := NB610_629.out
             have hcz52_0 : w46.cell? ⟨gb629, 0, none⟩ = some (.int .i64 0) := (blk_cell BK629.out 0).trans rfl
             have hcz52_1 : w46.cell? ⟨gb629, 1, none⟩ = some (.int .i64 0) := (blk_cell BK629.out 1).trans rfl
             have hcz52_2 : w46.cell? ⟨gb629, 2, none⟩ = some (.int .i64 0) := (blk_cell BK629.out 2).trans rfl
             have hcz52_3 : w46.cell? ⟨gb629, 3, none⟩ = some (.int .i64 0) := (blk_cell BK629.out 3).trans rfl
             have hfz52_0 := blk_frozen BK629.out 0
             have hfz52_1 := blk_frozen BK629.out 1
             have hfz52_2 := blk_frozen BK629.out 2
             have hfz52_3 := blk_frozen BK629.out 3
             try go_wp2
             have n0_ : Aside0 (Kd.R (Kd.int .i64) 3 ((((w46.setCell ⟨gb629, 0, none⟩ (.int .i64 t624)).setCell ⟨gb629, 1, none⟩ (.int .i64 t625)).setCell ⟨gb629, 2, none⟩ (.int .i64 t626)).setCell ⟨gb629, 3, none⟩ (.int .i64 t627)) w0.heap.size (fun k_ => (P0_ k_ ∨ w.heap.size ≤ k_)) (.slice Ao9 t615.length co9) t615) := ⟨by (with_reducible repeat (first | apply Kd.R_alloc | apply Kd.R_drewN | apply Kd.R_drew)); exact Kd.R_mono (Kd.R_far (p := ⟨gb629, 3, none⟩) (Kd.R_far (p := ⟨gb629, 2, none⟩) (Kd.R_far (p := ⟨gb629, 1, none⟩) (Kd.R_far (p := ⟨gb629, 0, none⟩) (Kd.R_types HO_0.out BK629.out (by decide)) (fun _ hk => hk.2) (.int .i64 t624)) (fun _ hk => hk.2) (.int .i64 t625)) (fun _ hk => hk.2) (.int .i64 t626)) (fun _ hk => hk.2) (.int .i64 t627)) (fun _ hk => hk.1)⟩
             have n1_ : Aside0 (((((w46.setCell ⟨gb629, 0, none⟩ (.int .i64 t624)).setCell ⟨gb629, 1, none⟩ (.int .i64 t625)).setCell ⟨gb629, 2, none⟩ (.int .i64 t626)).setCell ⟨gb629, 3, none⟩ (.int .i64 t627)).heap[gb610]? = some (.cells #[.int .i64 t611, .int .i64 t612, .int .i64 t613, .int .i64 t614] 70 (0, 0))) := ⟨by (with_reducible repeat (first | refine blk_drewN ?_ _ | refine blk_drew ?_ | refine blk_alloc ?_ _)); refine blk_far ?_ NB610_629.out _; (with_reducible repeat (first | refine blk_drewN ?_ _ | refine blk_drew ?_ | refine blk_alloc ?_ _)); refine blk_far ?_ NB610_629.out _; (with_reducible repeat (first | refine blk_drewN ?_ _ | refine blk_drew ?_ | refine blk_alloc ?_ _)); refine blk_far ?_ NB610_629.out _; (with_reducible repeat (first | refine blk_drewN ?_ _ | refine blk_drew ?_ | refine blk_alloc ?_ _)); refine blk_far ?_ NB610_629.out _; (with_reducible repeat (first | refine blk_drewN ?_ _ | refine blk_drew ?_ | refine blk_alloc ?_ _)); exact BK610.out⟩
             have n2_ : Aside0 (((((w46.setCell ⟨gb629, 0, none⟩ (.int .i64 t624)).setCell ⟨gb629, 1, none⟩ (.int .i64 t625)).setCell ⟨gb629, 2, none⟩ (.int .i64 t626)).setCell ⟨gb629, 3, none⟩ (.int .i64 t627)).heap[gb629]? = some (.cells #[.int .i64 t624, .int .i64 t625, .int .i64 t626, .int .i64 t627] 30 (0, 0))) := ⟨by (with_reducible repeat (first | refine blk_drewN ?_ _ | refine blk_drew ?_ | refine blk_alloc ?_ _)); refine blk_put (cs := #[.int .i64 t624, .int .i64 t625, .int .i64 t626, .int .i64 0]) ?_ 3 _ rfl; (with_reducible repeat (first | refine blk_drewN ?_ _ | refine blk_drew ?_ | refine blk_alloc ?_ _)); refine blk_put (cs := #[.int .i64 t624, .int .i64 t625, .int .i64 0, .int .i64 0]) ?_ 2 _ rfl; (with_reducible repeat (first | refine blk_drewN ?_ _ | refine blk_drew ?_ | refine blk_alloc ?_ _)); refine blk_put (cs := #[.int .i64 t624, .int .i64 0, .int .i64 0, .int .i64 0]) ?_ 1 _ rfl; (with_reducible repeat (first | refine blk_drewN ?_ _ | refine blk_drew ?_ | refine blk_alloc ?_ _)); refine blk_put (cs := #[.int .i64 0, .int .i64 0, .int .i64 0, .int .i64 0]) ?_ 0 _ rfl; (with_reducible repeat (first | refine blk_drewN ?_ _ | refine blk_drew ?_ | refine blk_alloc ?_ _)); exact BK629.out⟩
             have n3_ : Aside0 (Kept w ((((w46.setCell ⟨gb629, 0, none⟩ (.int .i64 t624)).setCell ⟨gb629, 1, none⟩ (.int .i64 t625)).setCell ⟨gb629, 2, none⟩ (.int .i64 t626)).setCell ⟨gb629, 3, none⟩ (.int .i64 t627)) (fun k_ => P0_ k_)) := ⟨by repeat (first | (with_reducible first | exact HK.out | apply Kept.alloc | apply Kept.drewN | apply Kept.drew | refine Kept.setCell ?_ (.inr GW610.out) _ | refine Kept.setCell ?_ (.inr GW629.out) _) | exact HK.out)⟩
             have n4_ : Aside0 (Below w0.heap.size w0 ((((w46.setCell ⟨gb629, 0, none⟩ (.int .i64 t624)).setCell ⟨gb629, 1, none⟩ (.int .i64 t625)).setCell ⟨gb629, 2, none⟩ (.int .i64 t626)).setCell ⟨gb629, 3, none⟩ (.int .i64 t627))) := ⟨by repeat (first | (with_reducible first | exact HB.out | apply below_alloc | apply pw_below_drewN | apply below_drew1 | refine below_set ?_ GE610.out | refine below_set ?_ GE629.out) | exact HB.out)⟩
             (try clear HO_0)
             (try clear BK610)
             (try clear BK629)
             (try clear HK)
             (try clear HB)
             generalize ((((w46.setCell ⟨gb629, 0, none⟩ (.int .i64 t624)).setCell ⟨gb629, 1, none⟩ (.int .i64 t625)).setCell ⟨gb629, 2, none⟩ (.int .i64 t626)).setCell ⟨gb629, 3, none⟩ (.int .i64 t627)) = w53 at n0_ n1_ n2_ n3_ n4_ ⊢
             have HO_0 := n0_
             have BK610 := n1_
             have BK629 := n2_
             have HK := n3_
             have HB := n4_
             clear n0_ n1_ n2_ n3_ n4_
             have n0_ := Aside0.mk (Kd.R_drew HO_0.out)
             have n1_ := Aside0.mk (blk_drew BK610.out)
             have n2_ := Aside0.mk (blk_drew BK629.out)
             have n3_ := Aside0.mk (Kept.drew HK.out)
             have n4_ := Aside0.mk (below_drew1 HB.out)
             clear HO_0
             clear BK610
             clear BK629
             clear HK
             clear HB
             have HO_0 := n0_
             have BK610 := n1_
             have BK629 := n2_
             have HK := n3_
             have HB := n4_
             clear n0_ n1_ n2_ n3_ n4_
             refine start_ (n := 12) (S := fun w' => w'.cell? ⟨gb610, 0, none⟩ = some (.int .i64 t611) ∧ w'.cell? ⟨gb610, 1, none⟩ = some (.int .i64 t612) ∧ w'.cell? ⟨gb610, 2, none⟩ = some (.int .i64 t613) ∧ w'.cell? ⟨gb610, 3, none⟩ = some (.int .i64 t614) ∧ w'.cell? ⟨gb629, 0, none⟩ = some (.int .i64 t624) ∧ w'.cell? ⟨gb629, 1, none⟩ = some (.int .i64 t625) ∧ w'.cell? ⟨gb629, 2, none⟩ = some (.int .i64 t626) ∧ w'.cell? ⟨gb629, 3, none⟩ = some (.int .i64 t627)) (ds := []) #[false, false, false, false, false, false, false, false, false, false, false, false] (by kernel_rfl) rfl rfl ⟨(blk_cell BK610.out 0).trans rfl, (blk_cell BK610.out 1).trans rfl, (blk_cell BK610.out 2).trans rfl, (blk_cell BK610.out 3).trans rfl, (blk_cell BK629.out 0).trans rfl, (blk_cell BK629.out 1).trans rfl, (blk_cell BK629.out 2).trans rfl, (blk_cell BK629.out 3).trans rfl⟩ (fun hHeld => ?_); refine with_tabW redlineref08_piece.tab7 redlineref08_piece.bits7 (fun HT_ HW_ => ?_)
             generalize w53.drew = w54 at HO_0 BK610 BK629 HK HB hHeld ⊢
             refine pw_ 0 56 (ar 12 1) HT_.out ?_
             refine pw_ 2 58 #[true, false, true, false, false, false, false, false, false, false, false, false] HT_.out ?_
             refine pw_ 5 61 #[true, false, true, false, false, true, false, false, false, false, false, false] HT_.out ?_
             refine pw_ 7 63 #[true, false, true, false, false, true, false, true, false, false, false, false] HT_.out ?_
             refine take_ (i := 1) (N := some 57) (v := ?_) (a' := ?_) #[true, true, true, false, false, true, false, true, false, false, false, false] rfl rfl (take_ofW HT_.out HW_.out (by kernel_rfl)) (fun _ _ _ h => h) (Or.inl ⟨by rfl, ?_⟩) hHeld ?_ ?_
             rotate_left
             ·rintro w' ⟨s0, s1, s2, s3, s4, s5, s6, s7⟩
              go_simp
              with_reducible rfl
             rotate_left
             ·simp only [Act.put, List.setIfInBounds_toArray, List.set_cons_zero, List.set_cons_succ, i64_w, i32_w]
              rfl
             refine take_ (i := 3) (N := some 59) (v := ?_) (a' := ?_) #[true, true, true, true, false, true, false, true, false, false, false, false] rfl rfl (take_ofW HT_.out HW_.out (by kernel_rfl)) (fun _ _ _ h => h) (Or.inl ⟨by rfl, ?_⟩) hHeld ?_ ?_
             rotate_left
             ·rintro w' ⟨s0, s1, s2, s3, s4, s5, s6, s7⟩
              go_simp
              with_reducible rfl
             rotate_left
             ·simp only [Act.put, List.setIfInBounds_toArray, List.set_cons_zero, List.set_cons_succ, i64_w, i32_w]
              rfl
             refine pw_ 4 60 #[true, true, true, true, true, true, false, true, false, false, false, false] HT_.out ?_
             refine pw_ 10 10 #[true, true, true, true, true, true, false, true, false, false, true, false] HT_.out ?_
             refine take_ (i := 6) (N := some 62) (v := ?_) (a' := ?_) #[true, true, true, true, true, true, true, true, false, false, true, false] rfl rfl (take_ofW HT_.out HW_.out (by kernel_rfl)) (fun _ _ _ h => h) (Or.inl ⟨by rfl, ?_⟩) hHeld ?_ ?_
             rotate_left
             ·rintro w' ⟨s0, s1, s2, s3, s4, s5, s6, s7⟩
              go_simp
              with_reducible rfl
             rotate_left
             ·simp only [Act.put, List.setIfInBounds_toArray, List.set_cons_zero, List.set_cons_succ, i64_w, i32_w]
              rfl
             refine take_ (i := 8) (N := some 64) (v := ?_) (a' := ?_) #[true, true, true, true, true, true, true, true, true, false, true, false] rfl rfl (take_ofW HT_.out HW_.out (by kernel_rfl)) (fun _ _ _ h => h) (Or.inl ⟨by rfl, ?_⟩) hHeld ?_ ?_
             rotate_left
             ·rintro w' ⟨s0, s1, s2, s3, s4, s5, s6, s7⟩
              go_simp
              with_reducible rfl
             rotate_left
             ·simp only [Act.put, List.setIfInBounds_toArray, List.set_cons_zero, List.set_cons_succ, i64_w, i32_w]
              rfl
             refine pw_ 9 65 (ar 12 11) HT_.out ?_
             refine pw_ 11 11 (ar 12 12) HT_.out ?_
             refine done_ (done_of HT_.out (by kernel_rfl)) ?_
             try go_wp2
             go_loopg [12] kj5 (fun kq v12 w' => ∃ (x0_2 : List Int) (x12_2 : Int), v12 = .int .i64 x12_2 ∧ Aside0 (redlineref08_piece.l0 kq x0_2 l1 l2 (wrap64 (t611 + t624)) (wrap64 (t613 + t625)) x12_2 t611 t612 t613 t614 t624 t625 t626 t627 = some r) ∧ Aside0 (kq ≤ kj5) ∧ Aside0 (Kd.R (Kd.int .i64) 3 w' w0.heap.size (fun k_ => (P0_ k_ ∨ w.heap.size ≤ k_)) (.slice Ao9 t615.length co9) x0_2) ∧ Aside0 (w'.heap[gb610]? = some (.cells #[.int .i64 t611, .int .i64 t612, .int .i64 t613, .int .i64 t614] 70 (0, 0))) ∧ Aside0 (w'.heap[gb629]? = some (.cells #[.int .i64 t624, .int .i64 t625, .int .i64 t626, .int .i64 t627] 30 (0, 0))) ∧ Aside0 (Kept w w' (fun k_ => P0_ k_)) ∧ Aside0 (Below w0.heap.size w0 w'))
             case atStart => exact ⟨(t615), (0), (by first | rfl | (simp; done) | (simp [*]; done)), H', ⟨Nat.le_refl _⟩, ⟨by (try simp only [hl0_5]); (with_reducible repeat (first | apply Kd.R_alloc | apply Kd.R_drewN | apply Kd.R_drew)); exact HO_0.out⟩, ⟨by (try simp only [hl0_5]); (with_reducible repeat (first | refine blk_drewN ?_ _ | refine blk_drew ?_ | refine blk_alloc ?_ _)); exact BK610.out⟩, ⟨by (try simp only [hl0_5]); (with_reducible repeat (first | refine blk_drewN ?_ _ | refine blk_drew ?_ | refine blk_alloc ?_ _)); exact BK629.out⟩, ⟨by repeat (first | (with_reducible first | exact HK.out | apply Kept.alloc | apply Kept.drewN | apply Kept.drew | refine Kept.setCell ?_ (.inr GW610.out) _ | refine Kept.setCell ?_ (.inr GW629.out) _) | exact HK.out)⟩, ⟨by repeat (first | (with_reducible first | exact HB.out | apply below_alloc | apply pw_below_drewN | apply below_drew1 | refine below_set ?_ GE610.out | refine below_set ?_ GE629.out) | exact HB.out)⟩⟩
             case round =>
              clear H'
              try clear c1
              try clear c2
              try clear p2
              try clear c4
              try clear q4
              try clear c5
              try clear p6
              try clear c19
              try clear c24
              try clear c24b0
              try clear c42
              try clear q42
              try clear c43
              try clear q43
              try clear c49
              try clear c51
              try clear hcz39_0
              try clear hcz39_1
              try clear hcz39_2
              try clear hcz39_3
              try clear hcz52_0
              try clear hcz52_1
              try clear hcz52_2
              try clear hcz52_3
              try clear hfz38_3
              try clear hfz39_0
              try clear hfz39_1
              try clear hfz39_2
              try clear hfz39_3
              try clear hfz52_0
              try clear hfz52_1
              try clear hfz52_2
              try clear hfz52_3
              try clear q042
              try clear q043
              try clear q42
              try clear q43
              obtain ⟨x0_2, x12_2, rfl, HA, HK2, HO_0, BK610, BK629, HK, HB⟩ := hrel
              have hl0_2 := (Kd.R_reads' HO_0.out).1
              rw [hl0_2] at HO_0
              (try simp only [hl0_2])
              (try simp only [hl0_2] at BK610)
              (try simp only [hl0_2] at BK629)
              cases gk with
              | zero => exact absurd HA.out (by simp [redlineref08_piece.l0])
              | succ k2 =>
               have H := HA.out
               clear HA
               simp only [redlineref08_piece.l0] at H
               by_cases c55 : x12_2 < t626
               ·rw [if_pos c55] at H
                have c55b0 : decide (x12_2 < t626) = true := decide_eq_true c55
                clear c55
                obtain ⟨ji56, hji56⟩ : ∃ j_ : Int, (wrap64 ((wrap64 (t611 + t624)) + x12_2)) = j_ := ⟨_, rfl⟩
                replace H : (if 0 ≤ (ji56) then (if (ji56) < (x0_2.length : Int) then (redlineref08_piece.l0 k2 (x0_2.set ((ji56) : Int).toNat (wrap64 ((wrap64 (t613 + t625)) + x12_2))) l1 l2 (wrap64 (t611 + t624)) (wrap64 (t613 + t625)) (wrap64 (x12_2 + 1)) t611 t612 t613 t614 t624 t625 t626 t627) else (none)) else (none)) = some r := by first | (rw [hji56] at H; exact H) | (simp only [hji56] at H ⊢; exact H)
                have hji56w : (IntKind.i64.wrap ((wrap64 (t611 + t624)) + x12_2)) = ji56 := (i64_w _).trans hji56
                by_cases c57 : 0 ≤ (ji56)
                ·rw [if_pos c57] at H
                 have c57b0 : decide (0 ≤ (ji56)) = true := decide_eq_true c57
                 clear c57
                 by_cases c58 : (ji56) < (x0_2.length : Int)
                 ·rw [if_pos c58] at H
                  have c58b0 : decide ((ji56) < (x0_2.length : Int)) = true := decide_eq_true c58
                  (try (have c58bh := c58b0; simp only [hl0_5, hl0_2] at c58bh))
                  clear c58
                  obtain ⟨y631, hy631⟩ : ∃ y_ : List Int, y_ = (x0_2.set ((ji56) : Int).toNat (wrap64 ((wrap64 (t613 + t625)) + x12_2))) := ⟨_, rfl⟩
                  replace H : (redlineref08_piece.l0 k2 y631 l1 l2 (wrap64 (t611 + t624)) (wrap64 (t613 + t625)) (wrap64 (x12_2 + 1)) t611 t612 t613 t614 t624 t625 t626 t627) = some r := by first | (rw [hy631]; with_reducible exact H) | (have H2_ := (Option.bind_some _ _).symm.trans H; rw [hy631]; with_reducible exact H2_) | (have H2_ := (Option.bind_some _ _).symm.trans H; with_reducible exact H2_) | with_reducible exact H | (rw [hy631]; exact H) | exact H
                  have Ny631 := Aside0.mk hy631
                  clear hy631
                  have H' := Aside0.mk H
                  clear H
                  have hnb60 := NB629_610.out
                  have hnc60 := NB610_629.out
                  have hcz61_0 : wr.cell? ⟨gb629, 0, none⟩ = some (.int .i64 t624) := (blk_cell BK629.out 0).trans rfl
                  have hcz61_1 : wr.cell? ⟨gb629, 1, none⟩ = some (.int .i64 t625) := (blk_cell BK629.out 1).trans rfl
                  have hcz61_2 : wr.cell? ⟨gb629, 2, none⟩ = some (.int .i64 t626) := (blk_cell BK629.out 2).trans rfl
                  have hcz61_3 : wr.cell? ⟨gb629, 3, none⟩ = some (.int .i64 t627) := (blk_cell BK629.out 3).trans rfl
                  have hfz61_0 := blk_frozen BK629.out 0
                  have hfz61_1 := blk_frozen BK629.out 1
                  have hfz61_2 := blk_frozen BK629.out 2
                  have hfz61_3 := blk_frozen BK629.out 3
                  have p59 : 0 ≤ ((ji56) : Int) := of_decide_eq_true (by first | (with_reducible assumption) | assumption)
                  have q59 : ((ji56) : Int) < ((x0_2.length : Int) : Int) := of_decide_eq_true (by first | (with_reducible assumption) | assumption)
                  obtain ⟨go59, co59, eo59, gb59, gl59, cl59, HG59⟩ := Kd.R_form HO_0.out (by omega)
                  (first | cases eo59 | (injection eo59 with ea_ en_ ec_; (first | subst ea_ | (injection ea_ with ea_; subst ea_)); subst ec_; clear en_))
                  have GB59 := Aside0.mk gb59
                  have GG59 := Aside0.mk HG59
                  clear gb59 gl59 HG59
                  have HMgo59 := Aside0.mk (show (P0_ go59 ∨ w.heap.size ≤ go59) from (HO_0.out.1 _ rfl))
                  obtain ⟨hx59_0, hf59_0⟩ := Kd.R_celln 0 HO_0.out ((ji56) : Int) p59 q59
                  replace p59 := eq_true p59
                  replace q59 := eq_true q59
                  have HP62 := Kd.R_putg HO_0.out ((ji56) : Int) (wrap64 ((wrap64 (t613 + t625)) + x12_2))
                  go_wp2_with (first | ((with_reducible refine gate_store (t := 3) (p := 79) rfl ?_); refine store_event (t := 3) (p := 79) (v := ?vo_w63) (w1 := (wr.setCell ⟨go59, ((ji56) : Int).toNat, none⟩ (.int .i64 (wrap64 ((wrap64 (t613 + t625)) + x12_2))))) ?hg ?ho ?hn ?hr ?_; (case ho => rfl); (case hg => rfl); (case hn => rfl); (case hr => first | (go_simp; done) | (go_simp; rfl)); intro w63 hw; have hg : wr.grownBy w63 (some go59) := (by rw [hw]; exact HP62.2); have hp_ : Kd.R (Kd.int .i64) 3 w63 w0.heap.size (fun k_ => (P0_ k_ ∨ w.heap.size ≤ k_)) (.slice (some ⟨go59, 0, none⟩) x0_2.length co9) y631 := (by rw [hw, Ny631.out]; exact HP62.1); clear HP62; have n0_ := Aside0.mk (hp_); have n1_ := Aside0.mk (blk_grown (g := gb610) (o := .cells #[.int .i64 t611, .int .i64 t612, .int .i64 t613, .int .i64 t614] 70 (0, 0)) (by (with_reducible repeat (first | refine blk_drewN ?_ _ | refine blk_drew ?_ | refine blk_alloc ?_ _)); exact BK610.out) hg (Kd.R_ne HO_0.out BK610.out (by decide))); have n2_ := Aside0.mk (blk_grown (g := gb629) (o := .cells #[.int .i64 t624, .int .i64 t625, .int .i64 t626, .int .i64 t627] 30 (0, 0)) (by (with_reducible repeat (first | refine blk_drewN ?_ _ | refine blk_drew ?_ | refine blk_alloc ?_ _)); exact BK629.out) hg (Kd.R_ne HO_0.out BK629.out (by decide))); have n3_ := Aside0.mk ((by rw [hw]; exact below_set (HB.out) GB59.out : Below w0.heap.size w0 w63)); have n4_ := Aside0.mk (Kept.of_grown (S := (fun k_ => P0_ k_)) hg (by repeat (first | (with_reducible first | exact HK.out | apply Kept.alloc | apply Kept.drewN | apply Kept.drew | refine Kept.setCell ?_ (.inr GW610.out) _ | refine Kept.setCell ?_ (.inr GW629.out) _) | exact HK.out)) (fun k_ e_ => (HO_0.out.1 k_ e_))); clear HO_0; clear BK610; clear BK629; clear HB; clear HK; have HO_0 := n0_; have BK610 := n1_; have BK629 := n2_; have HB := n3_; have HK := n4_; clear n0_ n1_ n2_ n3_ n4_; clear hg hw hp_))
                  (try simp only [← hl0_2])
                  go_roundg k2
                  case measure => have := HJ5.out; have := HK2.out; omega
                  case rel => exact ⟨(y631), (wrap64 (x12_2 + 1)), (by first | rfl | (simp; done) | (simp [*]; done)), H', ⟨by have := HJ5.out; have := HK2.out; omega⟩, ⟨by (try simp only [hl0_5]); (try simp only [hl0_2]); (with_reducible repeat (first | apply Kd.R_alloc | apply Kd.R_drewN | apply Kd.R_drew)); exact HO_0.out⟩, ⟨by (try simp only [hl0_5]); (try simp only [hl0_2]); (with_reducible repeat (first | refine blk_drewN ?_ _ | refine blk_drew ?_ | refine blk_alloc ?_ _)); exact BK610.out⟩, ⟨by (try simp only [hl0_5]); (try simp only [hl0_2]); (with_reducible repeat (first | refine blk_drewN ?_ _ | refine blk_drew ?_ | refine blk_alloc ?_ _)); exact BK629.out⟩, ⟨by repeat (first | (with_reducible first | exact HK.out | apply Kept.alloc | apply Kept.drewN | apply Kept.drew | refine Kept.setCell ?_ (.inr GW610.out) _ | refine Kept.setCell ?_ (.inr GW629.out) _) | exact HK.out)⟩, ⟨by repeat (first | (with_reducible first | exact HB.out | apply below_alloc | apply pw_below_drewN | apply below_drew1 | refine below_set ?_ GE610.out | refine below_set ?_ GE629.out) | exact HB.out)⟩⟩
                 ·rw [if_neg c58] at H
                  exact absurd H (by simp)
                ·rw [if_neg c57] at H
                 exact absurd H (by simp)
               ·rw [if_neg c55] at H
                have c55b0 : decide (x12_2 < t626) = false := decide_eq_false c55
                clear c55
                replace H := Option.bind_eq_some_iff.mp H
                obtain ⟨t632, A640, H⟩ := H
                replace H : ((redlineref08_piece.f k2 t632 l1 l2 (wrap64 ((wrap64 (t611 + t624)) + t626)) t612 (wrap64 ((wrap64 (t613 + t625)) + t626)) t614).bind fun t633 => (some t633)) = some r := H
                have A64 := Aside0.mk A640
                clear A640
                replace H := Option.bind_eq_some_iff.mp H
                obtain ⟨t633, A650, H⟩ := H
                replace H : (some t633) = some r := H
                have A65 := Aside0.mk A650
                clear A650
                obtain rfl := Option.some.inj H
                have hnb66 := NB629_610.out
                have hnc66 := NB610_629.out
                have hcz67_0 : wr.cell? ⟨gb629, 0, none⟩ = some (.int .i64 t624) := (blk_cell BK629.out 0).trans rfl
                have hcz67_1 : wr.cell? ⟨gb629, 1, none⟩ = some (.int .i64 t625) := (blk_cell BK629.out 1).trans rfl
                have hcz67_2 : wr.cell? ⟨gb629, 2, none⟩ = some (.int .i64 t626) := (blk_cell BK629.out 2).trans rfl
                have hcz67_3 : wr.cell? ⟨gb629, 3, none⟩ = some (.int .i64 t627) := (blk_cell BK629.out 3).trans rfl
                have hfz67_0 := blk_frozen BK629.out 0
                have hfz67_1 := blk_frozen BK629.out 1
                have hfz67_2 := blk_frozen BK629.out 2
                have hfz67_3 := blk_frozen BK629.out 3
                have hcz68_0 : wr.cell? ⟨gb610, 0, none⟩ = some (.int .i64 t611) := (blk_cell BK610.out 0).trans rfl
                have hcz68_1 : wr.cell? ⟨gb610, 1, none⟩ = some (.int .i64 t612) := (blk_cell BK610.out 1).trans rfl
                have hcz68_2 : wr.cell? ⟨gb610, 2, none⟩ = some (.int .i64 t613) := (blk_cell BK610.out 2).trans rfl
                have hcz68_3 : wr.cell? ⟨gb610, 3, none⟩ = some (.int .i64 t614) := (blk_cell BK610.out 3).trans rfl
                have hfz68_0 := blk_frozen BK610.out 0
                have hfz68_1 := blk_frozen BK610.out 1
                have hfz68_2 := blk_frozen BK610.out 2
                have hfz68_3 := blk_frozen BK610.out 3
                go_wp2_with (first | ((with_reducible refine gate_callee (f := 51) rfl ?_); refine goesL_ (some 90) rfl rfl Try.func51 (by kernel_rfl) rfl #[.slice Ao9 x0_2.length co9, .slice A1 l1.length c1, .slice A2 l2.length c2, .agg #[.int .i64 t611, .int .i64 (wrap64 (t611 + t624)), .int .i64 t613, .int .i64 (wrap64 (t613 + t625))]] rfl (by (try simp only [List.map_toArray, List.map_cons, List.map_nil]); first | done | rfl | (simp only [List.length_drop, List.length_take]; rfl)) ?_; (with_reducible refine (ih k2 (by have := HJ5.out; have := HK2.out; omega) (fun k_ => some k_ = (.slice Ao9 x0_2.length co9 : Value).ownBlock) (.slice Ao9 x0_2.length co9) x0_2 _ _ l1 _ _ l2 t611 (wrap64 (t611 + t624)) t613 (wrap64 (t613 + t625)) t632 w0 _ ?side1 ?side2 ?side3 ?side4 ?side5 ?side6 A64.out).mono ?_); (case side1 => repeat (first | (with_reducible first | exact HB.out | apply below_alloc | apply pw_below_drewN | apply below_drew1 | refine below_set ?_ GE610.out | refine below_set ?_ GE629.out) | exact HB.out)); (case side2 => exact Kd.R_tight rfl HO_0.out); (case side3 => exact Kd.C_kept_call HR1.out (by repeat (first | (with_reducible first | exact HK.out | apply Kept.alloc | apply Kept.drewN | apply Kept.drew | refine Kept.setCell ?_ (.inr GW610.out) _ | refine Kept.setCell ?_ (.inr GW629.out) _) | exact HK.out)) (fun k_ hs_ => (fun e_ => (HO_0.out.1 k_ e_.symm)) hs_)); (case side4 => exact HC1.out); (case side5 => exact Kd.C_kept_call HR2.out (by repeat (first | (with_reducible first | exact HK.out | apply Kept.alloc | apply Kept.drewN | apply Kept.drew | refine Kept.setCell ?_ (.inr GW610.out) _ | refine Kept.setCell ?_ (.inr GW629.out) _) | exact HK.out)) (fun k_ hs_ => (fun e_ => (HO_0.out.1 k_ e_.symm)) hs_)); (case side6 => exact HC2.out); rintro e w69 ⟨rfl, hy0, hb, hkp⟩; refine ⟨_, rfl, ?_⟩; have n0_ := Aside0.mk (Kd.R_reok rfl hy0 (fun k_ e_ => HO_0.out.1 k_ e_)); have n1_ := Aside0.mk (blk_kept (by (with_reducible repeat (first | refine blk_drewN ?_ _ | refine blk_drew ?_ | refine blk_alloc ?_ _)); exact BK610.out) hkp (fun hs_ => (fun e_ => (Kd.R_ne HO_0.out BK610.out (by decide)) e_) hs_)); have n2_ := Aside0.mk (blk_kept (by (with_reducible repeat (first | refine blk_drewN ?_ _ | refine blk_drew ?_ | refine blk_alloc ?_ _)); exact BK629.out) hkp (fun hs_ => (fun e_ => (Kd.R_ne HO_0.out BK629.out (by decide)) e_) hs_)); have n3_ := Aside0.mk (Kept.then_ (S := (fun k_ => P0_ k_)) (by repeat (first | (with_reducible first | exact HK.out | apply Kept.alloc | apply Kept.drewN | apply Kept.drew | refine Kept.setCell ?_ (.inr GW610.out) _ | refine Kept.setCell ?_ (.inr GW629.out) _) | exact HK.out)) hkp (fun k_ hs_ => (fun e_ => (HO_0.out.1 k_ e_.symm)) hs_)); have n4_ := Aside0.mk (hb); clear HO_0; clear BK610; clear BK629; clear HK; clear HB; have HO_0 := n0_; have BK610 := n1_; have BK629 := n2_; have HK := n3_; have HB := n4_; clear n0_ n1_ n2_ n3_ n4_; (try clear hb); (try clear hkp); (try clear hy0); have hcz70_0 : w69.cell? ⟨gb629, 0, none⟩ = some (.int .i64 t624) := (blk_cell BK629.out 0).trans rfl; have hcz70_1 : w69.cell? ⟨gb629, 1, none⟩ = some (.int .i64 t625) := (blk_cell BK629.out 1).trans rfl; have hcz70_2 : w69.cell? ⟨gb629, 2, none⟩ = some (.int .i64 t626) := (blk_cell BK629.out 2).trans rfl; have hcz70_3 : w69.cell? ⟨gb629, 3, none⟩ = some (.int .i64 t627) := (blk_cell BK629.out 3).trans rfl; have hfz70_0 := blk_frozen BK629.out 0; have hfz70_1 := blk_frozen BK629.out 1; have hfz70_2 := blk_frozen BK629.out 2; have hfz70_3 := blk_frozen BK629.out 3; have hcz71_0 : w69.cell? ⟨gb610, 0, none⟩ = some (.int .i64 t611) := (blk_cell BK610.out 0).trans rfl; have hcz71_1 : w69.cell? ⟨gb610, 1, none⟩ = some (.int .i64 t612) := (blk_cell BK610.out 1).trans rfl; have hcz71_2 : w69.cell? ⟨gb610, 2, none⟩ = some (.int .i64 t613) := (blk_cell BK610.out 2).trans rfl; have hcz71_3 : w69.cell? ⟨gb610, 3, none⟩ = some (.int .i64 t614) := (blk_cell BK610.out 3).trans rfl; have hfz71_0 := blk_frozen BK610.out 0; have hfz71_1 := blk_frozen BK610.out 1; have hfz71_2 := blk_frozen BK610.out 2; have hfz71_3 := blk_frozen BK610.out 3) | ((with_reducible refine gate_callee (f := 51) rfl ?_); refine goesL_ (some 107) rfl rfl Try.func51 (by kernel_rfl) rfl #[.slice Ao9 x0_2.length co9, .slice A1 l1.length c1, .slice A2 l2.length c2, .agg #[.int .i64 (wrap64 ((wrap64 (t611 + t624)) + t626)), .int .i64 t612, .int .i64 (wrap64 ((wrap64 (t613 + t625)) + t626)), .int .i64 t614]] rfl (by (try simp only [List.map_toArray, List.map_cons, List.map_nil]); first | done | rfl | (simp only [List.length_drop, List.length_take]; rfl)) ?_; (with_reducible refine (ih k2 (by have := HJ5.out; have := HK2.out; omega) (fun k_ => some k_ = (.slice Ao9 x0_2.length co9 : Value).ownBlock) (.slice Ao9 x0_2.length co9) t632 _ _ l1 _ _ l2 (wrap64 ((wrap64 (t611 + t624)) + t626)) t612 (wrap64 ((wrap64 (t613 + t625)) + t626)) t614 t633 w0 _ ?side1 ?side2 ?side3 ?side4 ?side5 ?side6 A65.out).mono ?_); (case side1 => repeat (first | (with_reducible first | exact HB.out | apply below_alloc | apply pw_below_drewN | apply below_drew1 | refine below_set ?_ GE610.out | refine below_set ?_ GE629.out) | exact HB.out)); (case side2 => exact Kd.R_tight rfl HO_0.out); (case side3 => exact Kd.C_kept_call HR1.out (by repeat (first | (with_reducible first | exact HK.out | apply Kept.alloc | apply Kept.drewN | apply Kept.drew | refine Kept.setCell ?_ (.inr GW610.out) _ | refine Kept.setCell ?_ (.inr GW629.out) _) | exact HK.out)) (fun k_ hs_ => (fun e_ => (HO_0.out.1 k_ e_.symm)) hs_)); (case side4 => exact HC1.out); (case side5 => exact Kd.C_kept_call HR2.out (by repeat (first | (with_reducible first | exact HK.out | apply Kept.alloc | apply Kept.drewN | apply Kept.drew | refine Kept.setCell ?_ (.inr GW610.out) _ | refine Kept.setCell ?_ (.inr GW629.out) _) | exact HK.out)) (fun k_ hs_ => (fun e_ => (HO_0.out.1 k_ e_.symm)) hs_)); (case side6 => exact HC2.out); rintro e w72 ⟨rfl, hy0, hb, hkp⟩; refine ⟨_, rfl, ?_⟩; have n0_ := Aside0.mk (Kd.R_reok rfl hy0 (fun k_ e_ => HO_0.out.1 k_ e_)); have n1_ := Aside0.mk (blk_kept (by (with_reducible repeat (first | refine blk_drewN ?_ _ | refine blk_drew ?_ | refine blk_alloc ?_ _)); exact BK610.out) hkp (fun hs_ => (fun e_ => (Kd.R_ne HO_0.out BK610.out (by decide)) e_) hs_)); have n2_ := Aside0.mk (blk_kept (by (with_reducible repeat (first | refine blk_drewN ?_ _ | refine blk_drew ?_ | refine blk_alloc ?_ _)); exact BK629.out) hkp (fun hs_ => (fun e_ => (Kd.R_ne HO_0.out BK629.out (by decide)) e_) hs_)); have n3_ := Aside0.mk (Kept.then_ (S := (fun k_ => P0_ k_)) (by repeat (first | (with_reducible first | exact HK.out | apply Kept.alloc | apply Kept.drewN | apply Kept.drew | refine Kept.setCell ?_ (.inr GW610.out) _ | refine Kept.setCell ?_ (.inr GW629.out) _) | exact HK.out)) hkp (fun k_ hs_ => (fun e_ => (HO_0.out.1 k_ e_.symm)) hs_)); have n4_ := Aside0.mk (hb); clear HO_0; clear BK610; clear BK629; clear HK; clear HB; have HO_0 := n0_; have BK610 := n1_; have BK629 := n2_; have HK := n3_; have HB := n4_; clear n0_ n1_ n2_ n3_ n4_; (try clear hb); (try clear hkp); (try clear hy0)))
                first | go_end0 | ((try simp only [Exit.inBlock, Exit.then]); refine bodyPost_ret (results_none rfl _ _ _) rfl ?_)
                exact ⟨by first | rfl | (simp [errW_none, errW_some] <;> rfl) | (simp [*, errW_none, errW_some] <;> rfl), (by first | exact (by (with_reducible repeat (first | apply Kd.R_alloc | apply Kd.R_drewN | apply Kd.R_drew)); exact HO_0.out) | (simp only [hl0_5, hl0_2]; exact (by (with_reducible repeat (first | apply Kd.R_alloc | apply Kd.R_drewN | apply Kd.R_drew)); exact HO_0.out))), by repeat (first | (with_reducible first | exact HB.out | apply below_alloc | apply pw_below_drewN | apply below_drew1 | refine below_set ?_ GE610.out | refine below_set ?_ GE629.out) | exact HB.out), by repeat (first | (with_reducible first | exact HK.out | apply Kept.alloc | apply Kept.drewN | apply Kept.drew | refine Kept.setCell ?_ (.inr GW610.out) _ | refine Kept.setCell ?_ (.inr GW629.out) _) | exact HK.out)⟩
           ·replace c23 := Bool.eq_false_iff.mpr c23
            subst c23
            have H1 : (some t615) = some r := by rw [if_neg (show ¬ (false = true) by decide)] at H; exact H
            clear H
            have H := H1
            clear H1
            obtain rfl := Option.some.inj H
            try go_wp2
            have n0_ := Aside0.mk (Kd.R_drew HO_0.out)
            have n1_ := Aside0.mk (blk_drew BK610.out)
            have n2_ := Aside0.mk (Kept.drew HK.out)
            have n3_ := Aside0.mk (below_drew1 HB.out)
            clear HO_0
            clear BK610
            clear HK
            clear HB
            have HO_0 := n0_
            have BK610 := n1_
            have HK := n2_
            have HB := n3_
            clear n0_ n1_ n2_ n3_
            have q74 : (t612 : Int) ≤ ((l1.length : Int) : Int) := of_decide_eq_true (by first | (with_reducible assumption) | assumption)
            obtain ⟨i074, hi074, _, hsz74, _⟩ := info_parts info3
            have hroom74 : l1.length ≤ c1 := HC1.out
            have hC74 : Kd.C (Kd.int .i64) _ A1 l1.length l1 := (Kd.C_kept_now HR1.out HK.out)
            have ql74 : (t611 : Int) ≤ (t612 : Int) := of_decide_eq_true (by first | (with_reducible assumption) | assumption)
            have q074 : (0 : Int) ≤ (t611 : Int) := of_decide_eq_true (by first | (with_reducible assumption) | assumption)
            have hcut74 := cut_mid (P := Try.prog) 22 3 .i64 .i64 Try.underlying22 hi074 1 hsz74 A1 l1.length c1 t611 t612 q074 ql74 q74 hroom74
            have hr74 := Kd.C_mid (lo := (t611 : Int).toNat) (hi := (t612 : Int).toNat) (c := c1) hC74 (by omega) (by omega) hroom74
            obtain ⟨A74, hA74⟩ : ∃ Az_, Az_ = (if c1 = (t611 : Int).toNat then A1 else (A1 : Option Addr).map (·.add ((t611 : Int).toNat * 1))) := ⟨_, rfl⟩
            obtain ⟨c74, hc74⟩ : ∃ cz_, cz_ = c1 - (t611 : Int).toNat := ⟨_, rfl⟩
            have hy74 : y616.length = (t612 : Int).toNat - (t611 : Int).toNat := (by rw [Ny616.out, List.length_drop, List.length_take] <;> omega)
            rw [show ((l1).take (t612 : Int).toNat).drop (t611 : Int).toNat = y616 from Ny616.out.symm] at hr74
            replace hr74 : Kd.C (Kd.int .i64) _ A74 y616.length y616 := (by rw [hA74]; exact hr74)
            rw [← hy74, ← hA74, ← hc74] at hcut74
            have HR619 := Aside0.mk hr74
            have HC619 := Aside0.mk (show y616.length ≤ c74 from by rw [hy74, hc74]; exact Nat.sub_le_sub_right (Nat.le_trans (by omega) hroom74) _)
            clear hr74 hC74 hroom74 hi074 hsz74 hc74
            have KY74 := Aside0.mk hy74
            have KA74 := Aside0.mk hA74
            clear hy74 hA74
            have KL74 := Aside0.mk (show (t612 : Int).toNat ≤ l1.length from by omega)
            have KM74 := Aside0.mk (show (t611 : Int).toNat ≤ (t612 : Int).toNat from by omega)
            replace q74 := eq_true q74
            have q75 : (t614 : Int) ≤ ((l2.length : Int) : Int) := of_decide_eq_true (by first | (with_reducible assumption) | assumption)
            obtain ⟨i075, hi075, _, hsz75, _⟩ := info_parts info3
            have hroom75 : l2.length ≤ c2 := HC2.out
            have hC75 : Kd.C (Kd.int .i64) _ A2 l2.length l2 := (Kd.C_kept_now HR2.out HK.out)
            have ql75 : (t613 : Int) ≤ (t614 : Int) := of_decide_eq_true (by first | (with_reducible assumption) | assumption)
            have q075 : (0 : Int) ≤ (t613 : Int) := of_decide_eq_true (by first | (with_reducible assumption) | assumption)
            have hcut75 := cut_mid (P := Try.prog) 22 3 .i64 .i64 Try.underlying22 hi075 1 hsz75 A2 l2.length c2 t613 t614 q075 ql75 q75 hroom75
            have hr75 := Kd.C_mid (lo := (t613 : Int).toNat) (hi := (t614 : Int).toNat) (c := c2) hC75 (by omega) (by omega) hroom75
            obtain ⟨A75, hA75⟩ : ∃ A1, A1 = (if c2 = (t613 : Int).toNat then A2 else (A2 : Option Addr).map (·.add ((t613 : Int).toNat * 1))) := ⟨_, rfl⟩
            obtain ⟨c75, hc75⟩ : ∃ c1, c1 = c2 - (t613 : Int).toNat := ⟨_, rfl⟩
            have hy75 : y620.length = (t614 : Int).toNat - (t613 : Int).toNat := (by rw [Ny620.out, List.length_drop, List.length_take] <;> omega)
            rw [show ((l2).take (t614 : Int).toNat).drop (t613 : Int).toNat = y620 from Ny620.out.symm] at hr75
            replace hr75 : Kd.C (Kd.int .i64) _ A75 y620.length y620 := (by rw [hA75]; exact hr75)
            rw [← hy75, ← hA75, ← hc75] at hcut75
            have HR623 := Aside0.mk hr75
            have HC623 := Aside0.mk (show y620.length ≤ c75 from by rw [hy75, hc75]; exact Nat.sub_le_sub_right (Nat.le_trans (by omega) hroom75) _)
            clear hr75 hC75 hroom75 hi075 hsz75 hc75
            have KY75 := Aside0.mk hy75
            have KA75 := Aside0.mk hA75
            clear hy75 hA75
            have KL75 := Aside0.mk (show (t614 : Int).toNat ≤ l2.length from by omega)
            have KM75 := Aside0.mk (show (t613 : Int).toNat ≤ (t614 : Int).toNat from by omega)
            replace q75 := eq_true q75
            refine start_ (n := 19) (S := fun w' => w'.cell? ⟨gb610, 0, none⟩ = some (.int .i64 t611) ∧ w'.cell? ⟨gb610, 1, none⟩ = some (.int .i64 t612) ∧ w'.cell? ⟨gb610, 2, none⟩ = some (.int .i64 t613) ∧ w'.cell? ⟨gb610, 3, none⟩ = some (.int .i64 t614)) (ds := []) #[false, false, false, false, false, false, false, false, false, false, false, false, false, false, false, false, false, false, false] (by kernel_rfl) rfl rfl ⟨(blk_cell BK610.out 0).trans rfl, (blk_cell BK610.out 1).trans rfl, (blk_cell BK610.out 2).trans rfl, (blk_cell BK610.out 3).trans rfl⟩ (fun hHeld => ?_); refine with_tabW redlineref08_piece.tab3 redlineref08_piece.bits3 (fun HT_ HW_ => ?_)
            generalize wc.drew = w73 at HO_0 BK610 HK HB HR619 HR623 hHeld ⊢
            refine pw_ 0 31 (ar 19 1) HT_.out ?_
            refine pw_ 1 32 (ar 19 2) HT_.out ?_
            refine pw_ 3 34 #[true, true, false, true, false, false, false, false, false, false, false, false, false, false, false, false, false, false, false] HT_.out ?_
            refine pw_ 6 37 #[true, true, false, true, false, false, true, false, false, false, false, false, false, false, false, false, false, false, false] HT_.out ?_
            refine pw_ 7 38 #[true, true, false, true, false, false, true, true, false, false, false, false, false, false, false, false, false, false, false] HT_.out ?_
            refine pw_ 9 40 #[true, true, false, true, false, false, true, true, false, true, false, false, false, false, false, false, false, false, false] HT_.out ?_
            refine take_ (i := 2) (N := some 33) (v := ?_) (a' := ?_) #[true, true, true, true, false, false, true, true, false, true, false, false, false, false, false, false, false, false, false] rfl rfl (take_ofW HT_.out HW_.out (by kernel_rfl)) (fun _ _ _ h => h) (Or.inl ⟨by rfl, ?_⟩) hHeld ?_ ?_
            rotate_left
            ·rintro w' ⟨s0, s1, s2, s3⟩
             go_simp
             with_reducible rfl
            rotate_left
            ·simp only [Act.put, List.setIfInBounds_toArray, List.set_cons_zero, List.set_cons_succ, i64_w, i32_w]
             rfl
            refine take_ (i := 4) (N := some 35) (v := ?_) (a' := ?_) #[true, true, true, true, true, false, true, true, false, true, false, false, false, false, false, false, false, false, false] rfl rfl (take_ofW HT_.out HW_.out (by kernel_rfl)) (fun _ _ _ h => h) (Or.inl ⟨by rfl, ?_⟩) hHeld ?_ ?_
            rotate_left
            ·rintro w' ⟨s0, s1, s2, s3⟩
             go_simp
             with_reducible rfl
            rotate_left
            ·simp only [Act.put, List.setIfInBounds_toArray, List.set_cons_zero, List.set_cons_succ, i64_w, i32_w]
             rfl
            refine pw_ 5 36 #[true, true, true, true, true, true, true, true, false, true, false, false, false, false, false, false, false, false, false] HT_.out ?_
            refine take_ (i := 8) (N := some 39) (v := ?_) (a' := ?_) (ar 19 10) rfl rfl (take_ofW HT_.out HW_.out (by kernel_rfl)) (fun _ _ _ h => h) (Or.inl ⟨by rfl, ?_⟩) hHeld ?_ ?_
            rotate_left
            ·rintro w' ⟨s0, s1, s2, s3⟩
             go_simp
             with_reducible rfl
            rotate_left
            ·simp only [Act.put, List.setIfInBounds_toArray, List.set_cons_zero, List.set_cons_succ, i64_w, i32_w]
             rfl
            refine take_ (i := 10) (N := some 41) (v := ?_) (a' := ?_) (ar 19 11) rfl rfl (take_ofW HT_.out HW_.out (by kernel_rfl)) (fun _ _ _ h => h) (Or.inl ⟨by rfl, ?_⟩) hHeld ?_ ?_
            rotate_left
            ·rintro w' ⟨s0, s1, s2, s3⟩
             go_simp
             with_reducible rfl
            rotate_left
            ·simp only [Act.put, List.setIfInBounds_toArray, List.set_cons_zero, List.set_cons_succ, i64_w, i32_w]
             rfl
            refine pw_ 11 42 (ar 19 12) HT_.out ?_
            refine join_ (σ := Nat) 2 (ar 19 17) (fun s_ => [(43, .tuple #[.agg #[.int .i64 t624, .int .i64 t625, .int .i64 t626, .int .i64 t627], .bool false]), (8, .pointer (some ⟨s_, 0, none⟩)), (30, .tuple #[.agg #[.int .i64 t624, .int .i64 t625, .int .i64 t626, .int .i64 t627], .bool false]), (44, .agg #[.int .i64 t624, .int .i64 t625, .int .i64 t626, .int .i64 t627]), (45, .bool false)]) (fun s_ w' => (w'.cell? ⟨gb610, 0, none⟩ = some (.int .i64 t611) ∧ w'.cell? ⟨gb610, 1, none⟩ = some (.int .i64 t612) ∧ w'.cell? ⟨gb610, 2, none⟩ = some (.int .i64 t613) ∧ w'.cell? ⟨gb610, 3, none⟩ = some (.int .i64 t614)) ∧ (Kd.R (Kd.int .i64) 3 w' w0.heap.size (fun k_ => (P0_ k_ ∨ w.heap.size ≤ k_)) (.slice Ao9 t615.length co9) t615) ∧ (w'.heap[gb610]? = some (.cells #[.int .i64 t611, .int .i64 t612, .int .i64 t613, .int .i64 t614] 70 (0, 0))) ∧ (w'.heap[s_]? = some (.cells #[.int .i64 0, .int .i64 0, .int .i64 0, .int .i64 0] 30 (0, 0))) ∧ (w.heap.size ≤ s_) ∧ (w0.heap.size ≤ s_) ∧ (gb610 ≠ s_) ∧ (s_ ≠ gb610) ∧ (Kept w w' (fun k_ => P0_ k_)) ∧ (Below w0.heap.size w0 w')) ?_ ?_
            rotate_left
            ·intro hCont
             refine two_ (i := 12) (j := 16) (Ni := some 43) (Nj := some 8) (ar 19 13) #[true, true, true, true, true, true, true, true, true, true, true, true, false, false, false, false, true, false, false] rfl rfl rfl rfl (two_of HT_.out (by kernel_rfl)) (by decide) (by decide) (fun K hK => ?_) (fun K hK => ?_)
             ·skip
              refine goes_ Try.func19 (by kernel_rfl) rfl #[.slice A74 y616.length c74, .slice A75 y620.length c75] (by rfl) rfl rfl (by (try simp only [List.map_toArray, List.map_cons, List.map_nil]); first | done | rfl | (simp only [List.length_drop, List.length_take]; rfl)) ?_
              with_reducible refine (redlineref08_Best.calls kj5 _ _ y616 _ _ y620 t624 t625 t626 t627 false _ ?side1 ?side2 ?side3 ?side4 A22.out).mono ?_
              (case side1 => repeat (first | exact (by repeat (first | (with_reducible exact HR619.out) | (with_reducible refine Kd.C_alloc ?_ _) | (with_reducible refine Kd.C_drewN ?_ _) | (with_reducible refine Kd.C_drew ?_) | exact HR619.out)) | (with_reducible refine Kd.C_alloc ?_ _) | (with_reducible refine Kd.C_drewN ?_ _) | (with_reducible refine Kd.C_drew ?_)))
              (case side2 => exact HC619.out)
              (case side3 => repeat (first | exact (by repeat (first | (with_reducible exact HR623.out) | (with_reducible refine Kd.C_alloc ?_ _) | (with_reducible refine Kd.C_drewN ?_ _) | (with_reducible refine Kd.C_drew ?_) | exact HR623.out)) | (with_reducible refine Kd.C_alloc ?_ _) | (with_reducible refine Kd.C_drewN ?_ _) | (with_reducible refine Kd.C_drew ?_)))
              (case side4 => exact HC623.out)
              rintro e w76 ⟨rfl, hb⟩
              refine ⟨_, rfl, ?_⟩
              have n0_ := Aside0.mk (Kd.R_below (by (with_reducible repeat (first | apply Kd.R_alloc | apply Kd.R_drewN | apply Kd.R_drew)); exact HO_0.out) hb)
              have n1_ := Aside0.mk (blk_below (g := gb610) (o := .cells #[.int .i64 t611, .int .i64 t612, .int .i64 t613, .int .i64 t614] 70 (0, 0)) (by (with_reducible repeat (first | refine blk_drewN ?_ _ | refine blk_drew ?_ | refine blk_alloc ?_ _)); exact BK610.out) hb)
              have n2_ := Aside0.mk (Kd.C_below (by repeat (first | (with_reducible exact HR619.out) | (with_reducible refine Kd.C_alloc ?_ _) | (with_reducible refine Kd.C_drewN ?_ _) | (with_reducible refine Kd.C_drew ?_) | exact HR619.out)) hb)
              have n3_ := Aside0.mk (Kd.C_below (by repeat (first | (with_reducible exact HR623.out) | (with_reducible refine Kd.C_alloc ?_ _) | (with_reducible refine Kd.C_drewN ?_ _) | (with_reducible refine Kd.C_drew ?_) | exact HR623.out)) hb)
              have n4_ := Aside0.mk (Kept.below (S := (fun k_ => P0_ k_)) (by repeat (first | (with_reducible first | exact HK.out | apply Kept.alloc | apply Kept.drewN | apply Kept.drew | refine Kept.setCell ?_ (.inr GW610.out) _) | exact HK.out)) hb)
              have n5_ := Aside0.mk (below_step (by repeat (first | (with_reducible first | exact HB.out | apply below_alloc | apply pw_below_drewN | apply below_drew1 | refine below_set ?_ GE610.out) | exact HB.out)) hb)
              clear HO_0
              clear BK610
              clear HR619
              clear HR623
              clear HK
              clear HB
              have HO_0 := n0_
              have BK610 := n1_
              have HR619 := n2_
              have HR623 := n3_
              have HK := n4_
              have HB := n5_
              clear n0_ n1_ n2_ n3_ n4_ n5_
              (try clear hb)
              (try clear hb2)
              (try clear hk)
              (try clear hi)
              refine hK.out _ _ ⟨(blk_cell BK610.out 0).trans rfl, (blk_cell BK610.out 1).trans rfl, (blk_cell BK610.out 2).trans rfl, (blk_cell BK610.out 3).trans rfl⟩ (fun hHeld => ?_)
              clear hK K
              refine norm_ (a' := ?_) ?_ ?_
              rotate_left
              ·show Act.put _ (some 43) _ = _
               simp only [Act.put, List.setIfInBounds_toArray, List.set_cons_zero, List.set_cons_succ, i64_w, i32_w]
               rfl
              refine pw_ 13 30 (ar 19 14) HT_.out ?_
              refine pw_ 14 44 (ar 19 15) HT_.out ?_
              refine pw_ 15 45 (ar 19 16) HT_.out ?_
              refine one_ (i := 16) (N := some 8) (ar 19 17) rfl rfl (one_of HT_.out (by kernel_rfl)) (by decide) (fun K hK => ?_)
              refine box_step ?hg (N := 8) ?hd (cs := #[.int .i64 0, .int .i64 0, .int .i64 0, .int .i64 0]) (t := 30) ?hr ?_; (case hd => rfl); (case hg => rfl); (case hr => first | (go_simp; done) | (go_simp; rfl))
              intro gb629 hg w77 hbox hb
              have n0_ := Aside0.mk (Kd.R_below (by (with_reducible repeat (first | apply Kd.R_alloc | apply Kd.R_drewN | apply Kd.R_drew)); exact HO_0.out) hb)
              have n1_ := Aside0.mk (blk_below (g := gb610) (o := .cells #[.int .i64 t611, .int .i64 t612, .int .i64 t613, .int .i64 t614] 70 (0, 0)) (by (with_reducible repeat (first | refine blk_drewN ?_ _ | refine blk_drew ?_ | refine blk_alloc ?_ _)); exact BK610.out) hb)
              have n2_ := Aside0.mk (Kd.C_below (by repeat (first | (with_reducible exact HR619.out) | (with_reducible refine Kd.C_alloc ?_ _) | (with_reducible refine Kd.C_drewN ?_ _) | (with_reducible refine Kd.C_drew ?_) | exact HR619.out)) hb)
              have n3_ := Aside0.mk (Kd.C_below (by repeat (first | (with_reducible exact HR623.out) | (with_reducible refine Kd.C_alloc ?_ _) | (with_reducible refine Kd.C_drewN ?_ _) | (with_reducible refine Kd.C_drew ?_) | exact HR623.out)) hb)
              have n4_ := Aside0.mk (Kept.below (S := (fun k_ => P0_ k_)) (by repeat (first | (with_reducible first | exact HK.out | apply Kept.alloc | apply Kept.drewN | apply Kept.drew | refine Kept.setCell ?_ (.inr GW610.out) _) | exact HK.out)) hb)
              have n5_ := Aside0.mk (below_step (by repeat (first | (with_reducible first | exact HB.out | apply below_alloc | apply pw_below_drewN | apply below_drew1 | refine below_set ?_ GE610.out) | exact HB.out)) hb)
              have n6_ := Aside0.mk (hbox)
              have n7_ := Aside0.mk ((by rw [hg]; exact (by first | exact HK.out.1 | exact (show Kept w _ (fun k_ => P0_ k_) from by repeat (first | (with_reducible first | exact HK.out | apply Kept.alloc | apply Kept.drewN | apply Kept.drew | refine Kept.setCell ?_ (.inr GW610.out) _) | exact HK.out)).1) : w.heap.size ≤ gb629))
              have n8_ := Aside0.mk ((by rw [hg]; exact (below_size (by repeat (first | (with_reducible first | exact HB.out | apply below_alloc | apply pw_below_drewN | apply below_drew1 | refine below_set ?_ GE610.out) | exact HB.out))) : w0.heap.size ≤ gb629))
              have n9_ := Aside0.mk ((by rw [hg]; exact Nat.ne_of_lt (blk_lt (g := gb610) (o := .cells #[.int .i64 t611, .int .i64 t612, .int .i64 t613, .int .i64 t614] 70 (0, 0)) (by (with_reducible repeat (first | refine blk_drewN ?_ _ | refine blk_drew ?_ | refine blk_alloc ?_ _)); exact BK610.out)) : gb610 ≠ gb629))
              have n10_ := Aside0.mk ((by rw [hg]; exact Nat.ne_of_gt (blk_lt (g := gb610) (o := .cells #[.int .i64 t611, .int .i64 t612, .int .i64 t613, .int .i64 t614] 70 (0, 0)) (by (with_reducible repeat (first | refine blk_drewN ?_ _ | refine blk_drew ?_ | refine blk_alloc ?_ _)); exact BK610.out)) : gb629 ≠ gb610))
              clear HO_0
              clear BK610
              clear HR619
              clear HR623
              clear HK
              clear HB
              have HO_0 := n0_
              have BK610 := n1_
              have HR619 := n2_
              have HR623 := n3_
              have HK := n4_
              have HB := n5_
              have BK629 := n6_
              have GW629 := n7_
              have GE629 := n8_
              have NB610_629 := n9_
              have NB629_610 := n10_
              clear n0_ n1_ n2_ n3_ n4_ n5_ n6_ n7_ n8_ n9_ n10_
              clear hb hbox hg
              refine hK.out _ _ ⟨(blk_cell BK610.out 0).trans rfl, (blk_cell BK610.out 1).trans rfl, (blk_cell BK610.out 2).trans rfl, (blk_cell BK610.out 3).trans rfl⟩ (fun hHeld => ?_)
              clear hK K
              refine norm_ (a' := ?_) ?_ ?_
              rotate_left
              ·show Act.put _ (some 8) _ = _
               simp only [Act.put, List.setIfInBounds_toArray, List.set_cons_zero, List.set_cons_succ, i64_w, i32_w]
               rfl
              exact norm_ (by simp only [putAll, Act.put, List.setIfInBounds_toArray, List.set_cons_zero, List.set_cons_succ]) (hCont (gb629) _ ⟨hHeld, (by (with_reducible repeat (first | apply Kd.R_alloc | apply Kd.R_drewN | apply Kd.R_drew)); exact HO_0.out), (by (with_reducible repeat (first | refine blk_drewN ?_ _ | refine blk_drew ?_ | refine blk_alloc ?_ _)); exact BK610.out), (by (with_reducible repeat (first | refine blk_drewN ?_ _ | refine blk_drew ?_ | refine blk_alloc ?_ _)); exact BK629.out), GW629.out, GE629.out, NB610_629.out, NB629_610.out, (by repeat (first | (with_reducible first | exact HK.out | apply Kept.alloc | apply Kept.drewN | apply Kept.drew | refine Kept.setCell ?_ (.inr GW610.out) _ | refine Kept.setCell ?_ (.inr GW629.out) _) | exact HK.out)), (by repeat (first | (with_reducible first | exact HB.out | apply below_alloc | apply pw_below_drewN | apply below_drew1 | refine below_set ?_ GE610.out | refine below_set ?_ GE629.out) | exact HB.out))⟩)
             ·skip
              refine box_step ?hg (N := 8) ?hd (cs := #[.int .i64 0, .int .i64 0, .int .i64 0, .int .i64 0]) (t := 30) ?hr ?_; (case hd => rfl); (case hg => rfl); (case hr => first | (go_simp; done) | (go_simp; rfl))
              intro gb629 hg w76 hbox hb
              have n0_ := Aside0.mk (Kd.R_below (by (with_reducible repeat (first | apply Kd.R_alloc | apply Kd.R_drewN | apply Kd.R_drew)); exact HO_0.out) hb)
              have n1_ := Aside0.mk (blk_below (g := gb610) (o := .cells #[.int .i64 t611, .int .i64 t612, .int .i64 t613, .int .i64 t614] 70 (0, 0)) (by (with_reducible repeat (first | refine blk_drewN ?_ _ | refine blk_drew ?_ | refine blk_alloc ?_ _)); exact BK610.out) hb)
              have n2_ := Aside0.mk (Kd.C_below (by repeat (first | (with_reducible exact HR619.out) | (with_reducible refine Kd.C_alloc ?_ _) | (with_reducible refine Kd.C_drewN ?_ _) | (with_reducible refine Kd.C_drew ?_) | exact HR619.out)) hb)
              have n3_ := Aside0.mk (Kd.C_below (by repeat (first | (with_reducible exact HR623.out) | (with_reducible refine Kd.C_alloc ?_ _) | (with_reducible refine Kd.C_drewN ?_ _) | (with_reducible refine Kd.C_drew ?_) | exact HR623.out)) hb)
              have n4_ := Aside0.mk (Kept.below (S := (fun k_ => P0_ k_)) (by repeat (first | (with_reducible first | exact HK.out | apply Kept.alloc | apply Kept.drewN | apply Kept.drew | refine Kept.setCell ?_ (.inr GW610.out) _) | exact HK.out)) hb)
              have n5_ := Aside0.mk (below_step (by repeat (first | (with_reducible first | exact HB.out | apply below_alloc | apply pw_below_drewN | apply below_drew1 | refine below_set ?_ GE610.out) | exact HB.out)) hb)
              have n6_ := Aside0.mk (hbox)
              have n7_ := Aside0.mk ((by rw [hg]; exact (by first | exact HK.out.1 | exact (show Kept w _ (fun k_ => P0_ k_) from by repeat (first | (with_reducible first | exact HK.out | apply Kept.alloc | apply Kept.drewN | apply Kept.drew | refine Kept.setCell ?_ (.inr GW610.out) _) | exact HK.out)).1) : w.heap.size ≤ gb629))
              have n8_ := Aside0.mk ((by rw [hg]; exact (below_size (by repeat (first | (with_reducible first | exact HB.out | apply below_alloc | apply pw_below_drewN | apply below_drew1 | refine below_set ?_ GE610.out) | exact HB.out))) : w0.heap.size ≤ gb629))
              have n9_ := Aside0.mk ((by rw [hg]; exact Nat.ne_of_lt (blk_lt (g := gb610) (o := .cells #[.int .i64 t611, .int .i64 t612, .int .i64 t613, .int .i64 t614] 70 (0, 0)) (by (with_reducible repeat (first | refine blk_drewN ?_ _ | refine blk_drew ?_ | refine blk_alloc ?_ _)); exact BK610.out)) : gb610 ≠ gb629))
              have n10_ := Aside0.mk ((by rw [hg]; exact Nat.ne_of_gt (blk_lt (g := gb610) (o := .cells #[.int .i64 t611, .int .i64 t612, .int .i64 t613, .int .i64 t614] 70 (0, 0)) (by (with_reducible repeat (first | refine blk_drewN ?_ _ | refine blk_drew ?_ | refine blk_alloc ?_ _)); exact BK610.out)) : gb629 ≠ gb610))
              clear HO_0
              clear BK610
              clear HR619
              clear HR623
              clear HK
              clear HB
              have HO_0 := n0_
              have BK610 := n1_
              have HR619 := n2_
              have HR623 := n3_
              have HK := n4_
              have HB := n5_
              have BK629 := n6_
              have GW629 := n7_
              have GE629 := n8_
              have NB610_629 := n9_
              have NB629_610 := n10_
              clear n0_ n1_ n2_ n3_ n4_ n5_ n6_ n7_ n8_ n9_ n10_
              clear hb hbox hg
              refine hK.out _ _ ⟨(blk_cell BK610.out 0).trans rfl, (blk_cell BK610.out 1).trans rfl, (blk_cell BK610.out 2).trans rfl, (blk_cell BK610.out 3).trans rfl⟩ (fun hHeld => ?_)
              clear hK K
              refine norm_ (a' := ?_) ?_ ?_
              rotate_left
              ·show Act.put _ (some 8) _ = _
               simp only [Act.put, List.setIfInBounds_toArray, List.set_cons_zero, List.set_cons_succ, i64_w, i32_w]
               rfl
              refine one_ (i := 12) (N := some 43) #[true, true, true, true, true, true, true, true, true, true, true, true, true, false, false, false, true, false, false] rfl rfl (one_of HT_.out (by kernel_rfl)) (by decide) (fun K hK => ?_)
              refine goes_ Try.func19 (by kernel_rfl) rfl #[.slice A74 y616.length c74, .slice A75 y620.length c75] (by rfl) rfl rfl (by (try simp only [List.map_toArray, List.map_cons, List.map_nil]); first | done | rfl | (simp only [List.length_drop, List.length_take]; rfl)) ?_
              with_reducible refine (redlineref08_Best.calls kj5 _ _ y616 _ _ y620 t624 t625 t626 t627 false _ ?side1 ?side2 ?side3 ?side4 A22.out).mono ?_
              (case side1 => repeat (first | exact (by repeat (first | (with_reducible exact HR619.out) | (with_reducible refine Kd.C_alloc ?_ _) | (with_reducible refine Kd.C_drewN ?_ _) | (with_reducible refine Kd.C_drew ?_) | exact HR619.out)) | (with_reducible refine Kd.C_alloc ?_ _) | (with_reducible refine Kd.C_drewN ?_ _) | (with_reducible refine Kd.C_drew ?_)))
              (case side2 => exact HC619.out)
              (case side3 => repeat (first | exact (by repeat (first | (with_reducible exact HR623.out) | (with_reducible refine Kd.C_alloc ?_ _) | (with_reducible refine Kd.C_drewN ?_ _) | (with_reducible refine Kd.C_drew ?_) | exact HR623.out)) | (with_reducible refine Kd.C_alloc ?_ _) | (with_reducible refine Kd.C_drewN ?_ _) | (with_reducible refine Kd.C_drew ?_)))
              (case side4 => exact HC623.out)
              rintro e w77 ⟨rfl, hb⟩
              refine ⟨_, rfl, ?_⟩
              have n0_ := Aside0.mk (Kd.R_below (by (with_reducible repeat (first | apply Kd.R_alloc | apply Kd.R_drewN | apply Kd.R_drew)); exact HO_0.out) hb)
              have n1_ := Aside0.mk (blk_below (g := gb610) (o := .cells #[.int .i64 t611, .int .i64 t612, .int .i64 t613, .int .i64 t614] 70 (0, 0)) (by (with_reducible repeat (first | refine blk_drewN ?_ _ | refine blk_drew ?_ | refine blk_alloc ?_ _)); exact BK610.out) hb)
              have n2_ := Aside0.mk (Kd.C_below (by repeat (first | (with_reducible exact HR619.out) | (with_reducible refine Kd.C_alloc ?_ _) | (with_reducible refine Kd.C_drewN ?_ _) | (with_reducible refine Kd.C_drew ?_) | exact HR619.out)) hb)
              have n3_ := Aside0.mk (Kd.C_below (by repeat (first | (with_reducible exact HR623.out) | (with_reducible refine Kd.C_alloc ?_ _) | (with_reducible refine Kd.C_drewN ?_ _) | (with_reducible refine Kd.C_drew ?_) | exact HR623.out)) hb)
              have n4_ := Aside0.mk (blk_below (g := gb629) (o := .cells #[.int .i64 0, .int .i64 0, .int .i64 0, .int .i64 0] 30 (0, 0)) (by (with_reducible repeat (first | refine blk_drewN ?_ _ | refine blk_drew ?_ | refine blk_alloc ?_ _)); exact BK629.out) hb)
              have n5_ := Aside0.mk (Kept.below (S := (fun k_ => P0_ k_)) (by repeat (first | (with_reducible first | exact HK.out | apply Kept.alloc | apply Kept.drewN | apply Kept.drew | refine Kept.setCell ?_ (.inr GW610.out) _ | refine Kept.setCell ?_ (.inr GW629.out) _) | exact HK.out)) hb)
              have n6_ := Aside0.mk (below_step (by repeat (first | (with_reducible first | exact HB.out | apply below_alloc | apply pw_below_drewN | apply below_drew1 | refine below_set ?_ GE610.out | refine below_set ?_ GE629.out) | exact HB.out)) hb)
              clear HO_0
              clear BK610
              clear HR619
              clear HR623
              clear BK629
              clear HK
              clear HB
              have HO_0 := n0_
              have BK610 := n1_
              have HR619 := n2_
              have HR623 := n3_
              have BK629 := n4_
              have HK := n5_
              have HB := n6_
              clear n0_ n1_ n2_ n3_ n4_ n5_ n6_
              (try clear hb)
              (try clear hb2)
              (try clear hk)
              (try clear hi)
              refine hK.out _ _ ⟨(blk_cell BK610.out 0).trans rfl, (blk_cell BK610.out 1).trans rfl, (blk_cell BK610.out 2).trans rfl, (blk_cell BK610.out 3).trans rfl⟩ (fun hHeld => ?_)
              clear hK K
              refine norm_ (a' := ?_) ?_ ?_
              rotate_left
              ·show Act.put _ (some 43) _ = _
               simp only [Act.put, List.setIfInBounds_toArray, List.set_cons_zero, List.set_cons_succ, i64_w, i32_w]
               rfl
              refine pw_ 13 30 #[true, true, true, true, true, true, true, true, true, true, true, true, true, true, false, false, true, false, false] HT_.out ?_
              refine pw_ 14 44 #[true, true, true, true, true, true, true, true, true, true, true, true, true, true, true, false, true, false, false] HT_.out ?_
              refine pw_ 15 45 (ar 19 17) HT_.out ?_
              exact norm_ (by simp only [putAll, Act.put, List.setIfInBounds_toArray, List.set_cons_zero, List.set_cons_succ]) (hCont (gb629) _ ⟨hHeld, (by (with_reducible repeat (first | apply Kd.R_alloc | apply Kd.R_drewN | apply Kd.R_drew)); exact HO_0.out), (by (with_reducible repeat (first | refine blk_drewN ?_ _ | refine blk_drew ?_ | refine blk_alloc ?_ _)); exact BK610.out), (by (with_reducible repeat (first | refine blk_drewN ?_ _ | refine blk_drew ?_ | refine blk_alloc ?_ _)); exact BK629.out), GW629.out, GE629.out, NB610_629.out, NB629_610.out, (by repeat (first | (with_reducible first | exact HK.out | apply Kept.alloc | apply Kept.drewN | apply Kept.drew | refine Kept.setCell ?_ (.inr GW610.out) _ | refine Kept.setCell ?_ (.inr GW629.out) _) | exact HK.out)), (by repeat (first | (with_reducible first | exact HB.out | apply below_alloc | apply pw_below_drewN | apply below_drew1 | refine below_set ?_ GE610.out | refine below_set ?_ GE629.out) | exact HB.out))⟩)
            rintro gb629 w78 ⟨hS_, h0_, h1_, h2_, h3_, h4_, h5_, h6_, h7_, h8_⟩
            have n0_ : Aside0 (Kd.R (Kd.int .i64) 3 w78 w0.heap.size (fun k_ => (P0_ k_ ∨ w.heap.size ≤ k_)) (.slice Ao9 t615.length co9) t615) := ⟨h0_⟩
            have n1_ : Aside0 (w78.heap[gb610]? = some (.cells #[.int .i64 t611, .int .i64 t612, .int .i64 t613, .int .i64 t614] 70 (0, 0))) := ⟨h1_⟩
            have n2_ : Aside0 (w78.heap[gb629]? = some (.cells #[.int .i64 0, .int .i64 0, .int .i64 0, .int .i64 0] 30 (0, 0))) := ⟨h2_⟩
            have n3_ : Aside0 (w.heap.size ≤ gb629) := ⟨h3_⟩
            have n4_ : Aside0 (w0.heap.size ≤ gb629) := ⟨h4_⟩
            have n5_ : Aside0 (gb610 ≠ gb629) := ⟨h5_⟩
            have n6_ : Aside0 (gb629 ≠ gb610) := ⟨h6_⟩
            have n7_ : Aside0 (Kept w w78 (fun k_ => P0_ k_)) := ⟨h7_⟩
            have n8_ : Aside0 (Below w0.heap.size w0 w78) := ⟨h8_⟩
            clear HO_0
            clear BK610
            clear HK
            clear HB
            clear h0_ h1_ h2_ h3_ h4_ h5_ h6_ h7_ h8_
            have HO_0 := n0_
            have BK610 := n1_
            have BK629 := n2_
            have GW629 := n3_
            have GE629 := n4_
            have NB610_629 := n5_
            have NB629_610 := n6_
            have HK := n7_
            have HB := n8_
            clear n0_ n1_ n2_ n3_ n4_ n5_ n6_ n7_ n8_
            have hHeld : w78.cell? ⟨gb610, 0, none⟩ = some (.int .i64 t611) ∧ w78.cell? ⟨gb610, 1, none⟩ = some (.int .i64 t612) ∧ w78.cell? ⟨gb610, 2, none⟩ = some (.int .i64 t613) ∧ w78.cell? ⟨gb610, 3, none⟩ = some (.int .i64 t614) := hS_
            refine norm_ (a' := ?_) ?_ ?_
            rotate_left
            ·simp only [putAll, Act.put, List.setIfInBounds_toArray, List.set_cons_zero, List.set_cons_succ]
             rfl
            refine one_ (i := 17) (N := none) (ar 19 18) rfl rfl (one_of HT_.out (by kernel_rfl)) (by decide) (fun K hK => ?_)
            have hs79 : w78.cell? ⟨gb629, 0, none⟩ = some (.int .i64 0) := (blk_cell BK629.out 0).trans rfl
            have hfs79 := blk_frozen BK629.out 0
            have hns79_0 := NB610_629.out
            have hms79_0 := NB629_610.out
            have hs80 : w78.cell? ⟨gb629, 1, none⟩ = some (.int .i64 0) := (blk_cell BK629.out 1).trans rfl
            have hfs80 := blk_frozen BK629.out 1
            have hns80_0 := NB610_629.out
            have hms80_0 := NB629_610.out
            have hs81 : w78.cell? ⟨gb629, 2, none⟩ = some (.int .i64 0) := (blk_cell BK629.out 2).trans rfl
            have hfs81 := blk_frozen BK629.out 2
            have hns81_0 := NB610_629.out
            have hms81_0 := NB629_610.out
            have hs82 : w78.cell? ⟨gb629, 3, none⟩ = some (.int .i64 0) := (blk_cell BK629.out 3).trans rfl
            have hfs82 := blk_frozen BK629.out 3
            have hns82_0 := NB610_629.out
            have hms82_0 := NB629_610.out
            refine skip_ (w1 := ?_) (by rfl) rfl ?_ ?_
            rotate_left
            ·go_simp
             rfl
            refine hK.out _ _ ⟨((cell_far (p := ⟨gb629, _, none⟩) NB610_629.out _).trans (((cell_far (p := ⟨gb629, _, none⟩) NB610_629.out _).trans (((cell_far (p := ⟨gb629, _, none⟩) NB610_629.out _).trans (((cell_far (p := ⟨gb629, _, none⟩) NB610_629.out _).trans (hHeld.1)))))))), ((cell_far (p := ⟨gb629, _, none⟩) NB610_629.out _).trans (((cell_far (p := ⟨gb629, _, none⟩) NB610_629.out _).trans (((cell_far (p := ⟨gb629, _, none⟩) NB610_629.out _).trans (((cell_far (p := ⟨gb629, _, none⟩) NB610_629.out _).trans (hHeld.2.1)))))))), ((cell_far (p := ⟨gb629, _, none⟩) NB610_629.out _).trans (((cell_far (p := ⟨gb629, _, none⟩) NB610_629.out _).trans (((cell_far (p := ⟨gb629, _, none⟩) NB610_629.out _).trans (((cell_far (p := ⟨gb629, _, none⟩) NB610_629.out _).trans (hHeld.2.2.1)))))))), ((cell_far (p := ⟨gb629, _, none⟩) NB610_629.out _).trans (((cell_far (p := ⟨gb629, _, none⟩) NB610_629.out _).trans (((cell_far (p := ⟨gb629, _, none⟩) NB610_629.out _).trans (((cell_far (p := ⟨gb629, _, none⟩) NB610_629.out _).trans (hHeld.2.2.2))))))))⟩ (fun hHeld => ?_)
            clear hK K
            refine pw_ 18 9 (ar 19 19) HT_.out ?_
            refine done_ (done_of HT_.out (by kernel_rfl)) ?_
            try go_wp2
            first | go_end0 | ((try simp only [Exit.inBlock, Exit.then]); refine bodyPost_ret (results_none rfl _ _ _) rfl ?_)
            exact ⟨by first | rfl | (simp [errW_none, errW_some] <;> rfl) | (simp [*, errW_none, errW_some] <;> rfl), (by first | exact (by (with_reducible repeat (first | apply Kd.R_alloc | apply Kd.R_drewN | apply Kd.R_drew)); exact Kd.R_mono (Kd.R_far (p := ⟨gb629, 3, none⟩) (Kd.R_far (p := ⟨gb629, 2, none⟩) (Kd.R_far (p := ⟨gb629, 1, none⟩) (Kd.R_far (p := ⟨gb629, 0, none⟩) (Kd.R_types HO_0.out BK629.out (by decide)) (fun _ hk => hk.2) (.int .i64 t624)) (fun _ hk => hk.2) (.int .i64 t625)) (fun _ hk => hk.2) (.int .i64 t626)) (fun _ hk => hk.2) (.int .i64 t627)) (fun _ hk => hk.1)) | (simp only [hl0_5]; exact (by (with_reducible repeat (first | apply Kd.R_alloc | apply Kd.R_drewN | apply Kd.R_drew)); exact Kd.R_mono (Kd.R_far (p := ⟨gb629, 3, none⟩) (Kd.R_far (p := ⟨gb629, 2, none⟩) (Kd.R_far (p := ⟨gb629, 1, none⟩) (Kd.R_far (p := ⟨gb629, 0, none⟩) (Kd.R_types HO_0.out BK629.out (by decide)) (fun _ hk => hk.2) (.int .i64 t624)) (fun _ hk => hk.2) (.int .i64 t625)) (fun _ hk => hk.2) (.int .i64 t626)) (fun _ hk => hk.2) (.int .i64 t627)) (fun _ hk => hk.1)))), by repeat (first | (with_reducible first | exact HB.out | apply below_alloc | apply pw_below_drewN | apply below_drew1 | refine below_set ?_ GE610.out | refine below_set ?_ GE629.out) | exact HB.out), by repeat (first | (with_reducible first | exact HK.out | apply Kept.alloc | apply Kept.drewN | apply Kept.drew | refine Kept.setCell ?_ (.inr GW610.out) _ | refine Kept.setCell ?_ (.inr GW629.out) _) | exact HK.out)⟩
          ·rw [if_neg c21] at H
           exact absurd H (by simp)
         ·rw [if_neg c20] at H
          exact absurd H (by simp)
        ·rw [if_neg c19] at H
         exact absurd H (by simp)
       ·rw [if_neg c18] at H
        exact absurd H (by simp)
      ·rw [if_neg c17] at H
       exact absurd H (by simp)
     ·rw [if_neg c16] at H
      exact absurd H (by simp)
end Go.Proofs.Ytdcldoembdifpaa.X
