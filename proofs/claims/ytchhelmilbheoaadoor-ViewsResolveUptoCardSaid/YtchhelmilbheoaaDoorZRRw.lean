/- redlinelaw12.Seen: an error that comes out of views.Resolve, told as the reference tells it -/
import Derived.Test.YtchhelmilbheoaaDoorZRRv
import Derived.Test.YtchhelmilbheoaaDoorZRXx24
import Derived.RangeFuncRecord
namespace Go.Proofs.YtchhelmilbheoaaDoor.As
open Go.RowKit Go.Proofs.YtchhelmilbheoaaDoorW.PrintWords Go.Proofs.YtchhelmilbheoaaDoorW.PrintLast Go.Proofs.YtchhelmilbheoaaDoorW.PrintMore
open Go.Proofs.YtchhelmilbheoaaDoor.X (Rs.IsF Rs.Flt Vs.ne_ty)
open Go.Proofs.YtchhelmilbheoaaDoor.X
set_option linter.unusedVariables false
set_option linter.unusedSimpArgs false
def T7 : Bool × List (List Nat × List Nat) := (true, [([], []), ([0], [0]), ([1], [1]), ([2], [2]), ([], []), ([3, 4], [3, 4]), ([5, 0, 1, 2, 3, 4, 5], [5])])
def B7 : List Nat := [0, 1, 3, 7, 0, 31, 63]
theorem tab7 : rtab .any (opsOf Tryd.f9 7) = T7 := by kernel_rfl
theorem bits7 : waitsOk T7.2 B7 = true := by kernel_rfl
set_option maxHeartbeats 8000000 in
set_option maxRecDepth 100000 in
theorem seen (v : Value) (r : Rs.Flt) (base : Nat) (w : World) (hg : w.cell? ⟨0, 0, none⟩ = some (.iface 111 (.agg #[.pointer (some ⟨4, 23, none⟩)]))) (hv : Rs.IsF w base v r) :
    Calls Tryd.prog 9 #[v] w fun e w' => e = .returned (.agg #[.int .i64 (r.getD (0, 0)).1, .int .i64 (r.getD (0, 0)).2]) ∧ Below w.heap.size w w' := by
  have HB := Aside0.mk (Below.refl w.heap.size w)
  have HG := Aside0.mk hg
  clear hg
  cases r with
  | none =>
    have e : v = .nilIface := hv
    subst e
    go_enter Tryd.func9, Tryd.ntmps9
    go_wp2_with ((with_reducible refine gate_dst (N := 2) rfl ?_); refine box_event ?hg (N := 2) ?hd (cs := #[.int .i64 0, .int .i64 0]) (t := 28) ?hr ?_; (case hd => rfl); (case hg => rfl); (case hr => first | (go_simp; done) | (go_simp; rfl)); intro gq hg wq hbox hb; have GBQ := Aside0.mk (by rw [hg]; exact HB.out.size : w.heap.size ≤ gq); have m0_ := Aside0.mk (below_step HB.out hb); clear HB; have HB := m0_; clear m0_; have BQ := Aside0.mk hbox; clear hbox hg hb; have q0 := (blk_cell BQ.out 0).trans (show _ = some (Value.int .i64 0) from rfl); have q1 := (blk_cell BQ.out 1).trans (show _ = some (Value.int .i64 0) from rfl); have z0 := blk_frozen BQ.out 0; have z1 := blk_frozen BQ.out 1)
    have BR : Aside0 (((wq.setCell ⟨gq, 0, none⟩ (.int .i64 0)).setCell ⟨gq, 1, none⟩ (.int .i64 0)).heap[gq]? = some (.cells #[.int .i64 0, .int .i64 0] 28 (0, 0))) := ⟨blk_put (blk_put BQ.out 0 _ rfl) 1 _ rfl⟩
    refine bodyPost_ret (results_cell_row rfl _ _ gq 28 #[.int .i64 0, .int .i64 0] (0, 0) _ rfl BR.out Tryd.underlying28 rfl rfl) rfl ?_
    exact ⟨rfl, (HB.out.setCell (p := ⟨gq, 0, none⟩) GBQ.out _).setCell (p := ⟨gq, 1, none⟩) GBQ.out _⟩
  | some f =>
    obtain ⟨a, c⟩ := f
    obtain ⟨g, e, _, hb⟩ := hv
    subst e
    have BG := Aside0.mk hb
    clear hb
    go_enter Tryd.func9, Tryd.ntmps9
    go_upto_region 7 with (first | ((with_reducible refine gate_dst (N := 2) rfl ?_); refine box_event ?hg (N := 2) ?hd (cs := #[.int .i64 0, .int .i64 0]) (t := 28) ?hr ?_; (case hd => rfl); (case hg => rfl); (case hr => first | (go_simp; done) | (go_simp; rfl)); intro gq hg wq hbox hb; have GBQ := Aside0.mk (by rw [hg]; exact HB.out.size : w.heap.size ≤ gq); have m0_ := Aside0.mk (below_step HB.out hb); clear HB; have HB := m0_; clear m0_; have BQ := Aside0.mk hbox; clear hbox hg hb; have q0 := (blk_cell BQ.out 0).trans (show _ = some (Value.int .i64 0) from rfl); have q1 := (blk_cell BQ.out 1).trans (show _ = some (Value.int .i64 0) from rfl); have z0 := blk_frozen BQ.out 0; have z1 := blk_frozen BQ.out 1) | ((with_reducible refine gate_dst (N := 3) rfl ?_); refine box_event ?hg (N := 3) ?hd (cs := #[.pointer none]) (t := 47) ?hr ?_; (case hd => rfl); (case hg => rfl); (case hr => first | (go_simp; done) | (go_simp; rfl)); intro gf hg wf hbox hb; have GBF := Aside0.mk (by rw [hg]; exact HB.out.size : w.heap.size ≤ gf); have LBFBQ := Aside0.mk (show gq ≠ gf by rw [hg]; exact Nat.ne_of_lt (blk_lt BQ.out)); have m0_ := Aside0.mk (below_step HB.out hb); have m1_ := Aside0.mk (blk_below BQ.out hb); clear HB BQ; have HB := m0_; have BQ := m1_; clear m0_ m1_; have BF := Aside0.mk hbox; clear hbox hg hb; have f0 := (blk_cell BF.out 0).trans (show _ = some (Value.pointer none) from rfl); have f1 := blk_frozen BF.out 0) | ((with_reducible refine gate_dst (N := 4) rfl ?_); refine box_event ?hg (N := 4) ?hd (cs := #[.int .i64 0]) (t := 26) ?hr ?_; (case hd => rfl); (case hg => rfl); (case hr => first | (go_simp; done) | (go_simp; rfl)); intro ge hg we hbox hb; have GBE := Aside0.mk (by rw [hg]; exact HB.out.size : w.heap.size ≤ ge); have LBEBQ := Aside0.mk (show gq ≠ ge by rw [hg]; exact Nat.ne_of_lt (blk_lt BQ.out)); have LBEBF := Aside0.mk (show gf ≠ ge by rw [hg]; exact Nat.ne_of_lt (blk_lt BF.out)); have m0_ := Aside0.mk (below_step HB.out hb); have m1_ := Aside0.mk (blk_below BQ.out hb); have m2_ := Aside0.mk (blk_below BF.out hb); clear HB BQ BF; have HB := m0_; have BQ := m1_; have BF := m2_; clear m0_ m1_ m2_; have BE := Aside0.mk hbox; clear hbox hg hb; clear f0 f1; have e0 := (blk_cell BE.out 0).trans (show _ = some (Value.int .i64 0) from rfl); have e1 := blk_frozen BE.out 0; have f0 := (blk_cell BF.out 0).trans (show _ = some (Value.pointer none) from rfl)) | (go_at_call 25; (with_reducible refine (as_f ⟨g, 0, none⟩ ⟨gf, 0, none⟩ (.pointer none) _ ((HB.out.cell (World.block_lt_of_cell? w _ HG.out)).trans HG.out) ((blk_cell BF.out 0).trans rfl) (blk_frozen BF.out 0)).mono ?_); rintro e w' ⟨rfl, w4, hb, rfl⟩; have m0_ := Aside0.mk (below_step HB.out hb); have m1_ := Aside0.mk (blk_below BQ.out hb); have m2_ := Aside0.mk (blk_below BF.out hb); have m3_ := Aside0.mk (blk_below BE.out hb); clear HB BQ BF BE; have HB := m0_; have BQ := m1_; have BF := m2_; have BE := m3_; clear m0_ m1_ m2_ m3_; have m0_ := Aside0.mk (HB.out.setCell (p := ⟨gf, 0, none⟩) GBF.out (.pointer (some ⟨g, 0, none⟩))); have m1_ := Aside0.mk (blk_far BQ.out (p := ⟨gf, 0, none⟩) LBFBQ.out (.pointer (some ⟨g, 0, none⟩))); have m2_ : Aside0 ((w4.setCell ⟨gf, 0, none⟩ (.pointer (some ⟨g, 0, none⟩))).heap[gf]? = some (.cells #[.pointer (some ⟨g, 0, none⟩)] 47 (0, 0))) := ⟨blk_put BF.out 0 _ rfl⟩; have m3_ := Aside0.mk (blk_far BE.out (p := ⟨gf, 0, none⟩) (Ne.symm LBEBF.out) (.pointer (some ⟨g, 0, none⟩))); clear HB BQ BF BE hb; have HB := m0_; have BQ := m1_; have BF := m2_; have BE := m3_; clear m0_ m1_ m2_ m3_; have f2 := (blk_cell BF.out 0).trans (show _ = some (Value.pointer (some ⟨g, 0, none⟩)) from rfl); have g1 : (w4.setCell ⟨gf, 0, none⟩ (.pointer (some ⟨g, 0, none⟩))).cell? ⟨g, 1, none⟩ = some (.iface 26 (.int .i64 c)) := (HB.out.cell (p := ⟨g, 1, none⟩) (blk_lt BG.out)).trans ((blk_cell BG.out 1).trans rfl)) | (go_at_call 25; (with_reducible refine (as_e c ⟨ge, 0, none⟩ (.int .i64 0) _ ((HB.out.cell (World.block_lt_of_cell? w _ HG.out)).trans HG.out) ((blk_cell BE.out 0).trans rfl) (blk_frozen BE.out 0)).mono ?_); rintro e w' ⟨rfl, w7, hb, rfl⟩; have m0_ := Aside0.mk (below_step HB.out hb); have m1_ := Aside0.mk (blk_below BQ.out hb); have m2_ := Aside0.mk (blk_below BF.out hb); have m3_ := Aside0.mk (blk_below BE.out hb); clear HB BQ BF BE; have HB := m0_; have BQ := m1_; have BF := m2_; have BE := m3_; clear m0_ m1_ m2_ m3_; have m0_ := Aside0.mk (HB.out.setCell (p := ⟨ge, 0, none⟩) GBE.out (.int .i64 c)); have m1_ := Aside0.mk (blk_far BQ.out (p := ⟨ge, 0, none⟩) LBEBQ.out (.int .i64 c)); have m2_ := Aside0.mk (blk_far BF.out (p := ⟨ge, 0, none⟩) LBEBF.out (.int .i64 c)); have m3_ : Aside0 ((w7.setCell ⟨ge, 0, none⟩ (.int .i64 c)).heap[ge]? = some (.cells #[.int .i64 c] 26 (0, 0))) := ⟨blk_put BE.out 0 _ rfl⟩; clear HB BQ BF BE hb; have HB := m0_; have BQ := m1_; have BF := m2_; have BE := m3_; clear m0_ m1_ m2_ m3_))
    generalize hW9 : w7.setCell ⟨ge, 0, none⟩ (.int .i64 c) = w9 at HB BQ BF BE ⊢
    clear hW9
    have n0_ : Aside0 (Below w.heap.size w w9.drew) := ⟨HB.out.trans (((Below.refl _ _).drew).mono HB.out.size)⟩
    have n1_ : Aside0 (w9.drew.heap[gq]? = some (.cells #[.int .i64 0, .int .i64 0] 28 (0, 0))) := ⟨BQ.out⟩
    have n2_ : Aside0 (w9.drew.heap[gf]? = some (.cells #[.pointer (some ⟨g, 0, none⟩)] 47 (0, 0))) := ⟨BF.out⟩
    have n3_ : Aside0 (w9.drew.heap[ge]? = some (.cells #[.int .i64 c] 26 (0, 0))) := ⟨BE.out⟩
    clear HB BQ BF BE
    have HB := n0_
    have BQ := n1_
    have BF := n2_
    have BE := n3_
    clear n0_ n1_ n2_ n3_
    refine start_ (n := 7) (S := fun w' => w'.cell? ⟨gf, 0, none⟩ = some (.pointer (some ⟨g, 0, none⟩)) ∧ w'.cell? ⟨g, 0, none⟩ = some (.int .i64 a) ∧ w'.cell? ⟨ge, 0, none⟩ = some (.int .i64 c)) (ds := [6]) #[false, false, false, false, false, false, false] (by kernel_rfl) rfl rfl ⟨(blk_cell BF.out 0).trans rfl, (HB.out.cell (p := ⟨g, 0, none⟩) (blk_lt BG.out)).trans ((blk_cell BG.out 0).trans rfl), (blk_cell BE.out 0).trans rfl⟩ (fun hHeld => ?_)
    refine with_tabW tab7 bits7 (fun HT_ HW_ => ?_)
    generalize w9.drew = w8 at HB BQ BF BE hHeld ⊢
    refine take_ (i := 0) (N := some 26) (v := ?_) (a' := ?_) #[true, false, false, false, false, false, false] rfl rfl (take_ofW HT_.out HW_.out (by kernel_rfl)) (fun _ _ _ h => h) (Or.inl ⟨by rfl, ?_⟩) hHeld ?_ ?_
    rotate_left
    · rintro w' ⟨s0_, s1_, s2_⟩
      go_simp
      with_reducible rfl
    rotate_left
    · simp only [Act.put, List.setIfInBounds_toArray, List.set_cons_zero, List.set_cons_succ, i64_w, i32_w]
      rfl
    refine pure_ (i := 1) (N := some 27) (v := ?_) (a' := ?_) #[true, true, false, false, false, false, false] rfl rfl (any_of HT_.out (by kernel_rfl)) (fun _ _ _ h => h) (Or.inl ⟨by rfl, ?_⟩) ?_ ?_
    rotate_left
    · intro w'
      go_simp
      with_reducible rfl
    rotate_left
    · simp only [Act.put, List.setIfInBounds_toArray, List.set_cons_zero, List.set_cons_succ, i64_w, i32_w]
      rfl
    refine pure_ (i := 2) (N := some 28) (v := ?_) (a' := ?_) #[true, true, true, false, false, false, false] rfl rfl (any_of HT_.out (by kernel_rfl)) (fun _ _ _ h => h) (Or.inl ⟨by rfl, ?_⟩) ?_ ?_
    rotate_left
    · intro w'
      go_simp
      with_reducible rfl
    rotate_left
    · simp only [Act.put, List.setIfInBounds_toArray, List.set_cons_zero, List.set_cons_succ, i64_w, i32_w]
      rfl
    refine take_ (i := 3) (N := some 29) (v := ?_) (a' := ?_) #[true, true, true, true, false, false, false] rfl rfl (take_ofW HT_.out HW_.out (by kernel_rfl)) (fun _ _ _ h => h) (Or.inl ⟨by rfl, ?_⟩) hHeld ?_ ?_
    rotate_left
    · rintro w' ⟨s0_, s1_, s2_⟩
      go_simp
      with_reducible rfl
    rotate_left
    · simp only [Act.put, List.setIfInBounds_toArray, List.set_cons_zero, List.set_cons_succ, i64_w, i32_w]
      rfl
    refine take_ (i := 4) (N := some 30) (v := ?_) (a' := ?_) #[true, true, true, true, true, false, false] rfl rfl (take_ofW HT_.out HW_.out (by kernel_rfl)) (fun _ _ _ h => h) (Or.inl ⟨by rfl, ?_⟩) hHeld ?_ ?_
    rotate_left
    · rintro w' ⟨s0_, s1_, s2_⟩
      go_simp
      with_reducible rfl
    rotate_left
    · simp only [Act.put, List.setIfInBounds_toArray, List.set_cons_zero, List.set_cons_succ, i64_w, i32_w]
      rfl
    refine pure_ (i := 5) (N := some 31) (v := ?_) (a' := ?_) #[true, true, true, true, true, true, false] rfl rfl (any_of HT_.out (by kernel_rfl)) (fun _ _ _ h => h) (Or.inl ⟨by rfl, ?_⟩) ?_ ?_
    rotate_left
    · intro w'
      go_simp
      with_reducible rfl
    rotate_left
    · simp only [Act.put, List.setIfInBounds_toArray, List.set_cons_zero, List.set_cons_succ, i64_w, i32_w]
      rfl
    refine last_ (i := 6) (N := none) #[true, true, true, true, true, true, true] rfl rfl (one_of HT_.out (by kernel_rfl)) (by decide) (fun K hK => ?_)
    have q0 := (blk_cell BQ.out 0).trans (show _ = some (Value.int .i64 0) from rfl)
    have q1 := (blk_cell BQ.out 1).trans (show _ = some (Value.int .i64 0) from rfl)
    have z0 := blk_frozen BQ.out 0
    have z1 := blk_frozen BQ.out 1
    refine skip_ (w1 := (w8.setCell ⟨gq, 0, none⟩ (.int .i64 a)).setCell ⟨gq, 1, none⟩ (.int .i64 c)) (by rfl) rfl (by go_simp) ?_
    refine hK.out _ _ ?_
    clear hK K
    refine done_ (done_of HT_.out (by kernel_rfl)) ?_
    clear HT_ HW_
    go_wp2
    have BR : Aside0 (((w8.setCell ⟨gq, 0, none⟩ (.int .i64 a)).setCell ⟨gq, 1, none⟩ (.int .i64 c)).heap[gq]? = some (.cells #[.int .i64 a, .int .i64 c] 28 (0, 0))) := ⟨blk_put (blk_put BQ.out 0 _ rfl) 1 _ rfl⟩
    refine bodyPost_ret (results_cell_row rfl _ _ gq 28 #[.int .i64 a, .int .i64 c] (0, 0) _ rfl BR.out Tryd.underlying28 rfl rfl) rfl ?_
    exact ⟨rfl, (HB.out.setCell (p := ⟨gq, 0, none⟩) GBQ.out _).setCell (p := ⟨gq, 1, none⟩) GBQ.out _⟩
end Go.Proofs.YtchhelmilbheoaaDoor.As
