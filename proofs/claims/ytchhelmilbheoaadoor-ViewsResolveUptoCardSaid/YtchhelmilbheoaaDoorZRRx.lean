/- ViewsResolve: the walk of the law's function, where both sides tell the same. -/
import Derived.Test.YtchhelmilbheoaaDoorZRRw
import Derived.Test.YtchhelmilbheoaaDoorZRXx24
import Derived.Test.YtchhelmilbheoaaDoorZRXx29
import Derived.RangeFuncRecord
namespace Go.Proofs.YtchhelmilbheoaaDoor.As
open Go.RowKit Go.Proofs.YtchhelmilbheoaaDoorW.PrintWords Go.Proofs.YtchhelmilbheoaaDoorW.PrintLast Go.Proofs.YtchhelmilbheoaaDoorW.PrintMore
open Go.Proofs.YtchhelmilbheoaaDoor.X
set_option linter.unusedVariables false
set_option linter.unusedSimpArgs false
def T3 : Bool × List (List Nat × List Nat) := (true, [([], []), ([], []), ([0, 1], [0, 1]), ([2], [2]), ([3], [3]), ([4, 3, 3], [3, 4]), ([3], [3]), ([5, 6, 3], [3, 5, 6]), ([3, 7], [3, 7]), ([8, 5, 0, 1, 2, 3, 4, 5, 6, 7, 8], [8])])
def B3 : List Nat := [0, 0, 3, 7, 15, 31, 15, 127, 255, 511]
theorem tab3 : rtab .any (opsOf Tryd.f3 3) = T3 := by kernel_rfl
theorem bits3 : waitsOk T3.2 B3 = true := by kernel_rfl
theorem eqF (d : Nat) (w : World) (x0 y0 x1 y1 : Int) : (Op.equalIn (d + 2) 28 (.agg #[.int .i64 x0, .int .i64 x1]) (.agg #[.int .i64 y0, .int .i64 y1])).run Tryd.prog w = .ok (x0 == y0 && (x1 == y1)) w := by
  refine eqA_of Tryd.underlying28 (by kernel_rfl) ?_
  refine eqf_cons (by rfl) (by go_simp; rfl) (by go_simp; rfl) (by go_simp) ?_
  exact eqf_last (by rfl) (by go_simp; rfl) (by go_simp; rfl) (by go_simp)
theorem isF_below {W W1 : World} {base : Nat} {v : Value} : ∀ {r : Rs.Flt}, Rs.IsF W base v r → Below W.heap.size W W1 → Rs.IsF W1 base v r
  | none, h, _ => h
  | some (a, e), ⟨g, h1, h2, h3⟩, hb => ⟨g, h1, h2, blk_below h3 hb⟩
theorem isF_set {W : World} {base : Nat} {v : Value} {gy t : Nat} {cs : Array Value} (hy : W.heap[gy]? = some (.cells cs t (0, 0))) (ht : t ≠ 49) (i : Nat) (u : Value) : ∀ {r : Rs.Flt}, Rs.IsF W base v r → Rs.IsF (W.setCell ⟨gy, i, none⟩ u) base v r
  | none, h => h
  | some (a, e), ⟨g, h1, h2, h3⟩ => ⟨g, h1, h2, blk_far h3 (Vs.ne_ty h3 hy (Ne.symm ht)) _⟩
set_option maxHeartbeats 8000000 in
set_option maxRecDepth 100000 in
theorem walk (k : Nat) (a0 a1 : ByteArray) (a2 : Bool) (r1 : ByteArray) (f : Rs.Flt) (w : World) (hg : w.cell? ⟨0, 0, none⟩ = some (.iface 111 (.agg #[.pointer (some ⟨4, 23, none⟩)]))) (hp : views_Resolve.f a0 a1 a2 = some (r1, f)) (hr : redlineref17_Resolve.f k a0 a1 a2 = some (r1, (f.getD (0, 0)).1, (f.getD (0, 0)).2)) :
    Calls Tryd.prog 3 #[.string a0, .string a1, .bool a2] w fun e w' => e = .returned (.bool true) ∧ Below w.heap.size w w' := by
  have HB := Aside0.mk (Below.refl w.heap.size w)
  have HG := Aside0.mk hg
  have HP := Aside0.mk hp
  obtain ⟨fa, hfa⟩ : ∃ a, (f.getD (0, 0)).1 = a := ⟨_, rfl⟩
  obtain ⟨fc, hfc⟩ : ∃ c, (f.getD (0, 0)).2 = c := ⟨_, rfl⟩
  rw [hfa, hfc] at hr
  have HR := Aside0.mk hr
  have HFA := Aside0.mk hfa
  have HFC := Aside0.mk hfc
  clear hg hp hr hfa hfc
  go_enter Tryd.func3, Tryd.ntmps3
  go_upto_region 3 with (first | (go_at_call 7; (with_reducible refine (views_Resolve.calls a0 a1 a2 r1 f _ HP.out).mono ?_); rintro e w1 ⟨v, rfl, hv, hb⟩; have n1_ := Aside0.mk (below_step HB.out hb); have HV := Aside0.mk hv; clear HB hb hv; have HB := n1_; clear n1_) | (go_at_call 8; (with_reducible refine (redlineref17_Resolve.calls k a0 a1 a2 r1 fa fc _ HR.out).mono ?_); rintro e w2 ⟨rfl, hb⟩; have n1_ := Aside0.mk (below_step HB.out hb); have n2_ := Aside0.mk (isF_below HV.out hb); clear HB HV hb; have HB := n1_; have HV := n2_; clear n1_ n2_) | ((with_reducible refine gate_dst (N := 10) rfl ?_); refine box_event ?hg (N := 10) ?hd (cs := #[.int .i64 0, .int .i64 0]) (t := 28) ?hr ?_; (case hd => rfl); (case hg => rfl); (case hr => first | (go_simp; done) | (go_simp; rfl)); intro gy hg w3 hbox hb; have GY := Aside0.mk (by rw [hg]; exact HB.out.size : w.heap.size ≤ gy); have n1_ := Aside0.mk (below_step HB.out hb); have n2_ := Aside0.mk (isF_below HV.out hb); clear HB HV; have HB := n1_; have HV := n2_; clear n1_ n2_; have BY := Aside0.mk hbox; clear hbox hg hb; have y0 := (blk_cell BY.out 0).trans (show _ = some (Value.int .i64 0) from rfl); have y1 := (blk_cell BY.out 1).trans (show _ = some (Value.int .i64 0) from rfl); have z0 := blk_frozen BY.out 0; have z1 := blk_frozen BY.out 1) | ((with_reducible refine gate_store (t := 28) (p := 10) rfl ?_); refine store_event (t := 28) (p := 10) (v := ?vo_sy) (w1 := (w3.setCell ⟨gy, 0, none⟩ (.int .i64 fa)).setCell ⟨gy, 1, none⟩ (.int .i64 fc)) ?hg ?ho ?hn ?hr ?_; (case ho => rfl); (case hg => rfl); (case hn => rfl); (case hr => first | (go_simp; done) | (go_simp; rfl)); intro w4 hw; have n0_ : Aside0 (w4.heap[gy]? = some (.cells #[.int .i64 fa, .int .i64 fc] 28 (0, 0))) := ⟨by rw [hw]; exact blk_put (blk_put BY.out 0 _ rfl) 1 _ rfl⟩; have n1_ : Aside0 (Below w.heap.size w w4) := ⟨by rw [hw]; exact (HB.out.setCell (p := ⟨gy, 0, none⟩) GY.out _).setCell (p := ⟨gy, 1, none⟩) GY.out _⟩; have n2_ : Aside0 (Rs.IsF w4 w.heap.size v f) := ⟨by rw [hw]; exact isF_set (blk_put BY.out 0 _ rfl) (by decide) 1 _ (isF_set BY.out (by decide) 0 _ HV.out)⟩; clear HB HV BY hw y0 y1 z0 z1; have BY := n0_; have HB := n1_; have HV := n2_; clear n0_ n1_ n2_))
  have n0_ : Aside0 (Below w.heap.size w w4.drew) := ⟨HB.out.trans (((Below.refl _ _).drew).mono HB.out.size)⟩
  have n1_ : Aside0 (w4.drew.heap[gy]? = some (.cells #[.int .i64 fa, .int .i64 fc] 28 (0, 0))) := ⟨BY.out⟩
  have n2_ := Aside0.mk (isF_below HV.out ((Below.refl w4.heap.size w4).drew))
  clear HB BY HV
  have HB := n0_
  have BY := n1_
  have HV := n2_
  clear n0_ n1_ n2_
  have hE := eqF
  refine start_ (n := 10) (S := fun w' => w'.cell? ⟨gy, 0, none⟩ = some (.int .i64 fa) ∧ w'.cell? ⟨gy, 1, none⟩ = some (.int .i64 fc)) (ds := []) #[false, false, false, false, false, false, false, false, false, false] (by kernel_rfl) rfl rfl ⟨(blk_cell BY.out 0).trans rfl, (blk_cell BY.out 1).trans rfl⟩ (fun hHeld => ?_)
  refine with_tabW tab3 bits3 (fun HT_ HW_ => ?_)
  generalize w4.drew = w8 at HB BY HV hHeld ⊢
  refine pure_ (i := 0) (N := some 25) (v := ?_) (a' := ?_) #[true, false, false, false, false, false, false, false, false, false] rfl rfl (any_of HT_.out (by kernel_rfl)) (fun _ _ _ h => h) (Or.inl ⟨by rfl, ?_⟩) ?_ ?_
  rotate_left
  · intro w'
    go_simp
    with_reducible rfl
  rotate_left
  · simp only [Act.put, List.setIfInBounds_toArray, List.set_cons_zero, List.set_cons_succ, i64_w, i32_w]
    rfl
  refine pure_ (i := 1) (N := some 26) (v := ?_) (a' := ?_) #[true, true, false, false, false, false, false, false, false, false] rfl rfl (any_of HT_.out (by kernel_rfl)) (fun _ _ _ h => h) (Or.inl ⟨by rfl, ?_⟩) ?_ ?_
  rotate_left
  · intro w'
    go_simp
    with_reducible rfl
  rotate_left
  · simp only [Act.put, List.setIfInBounds_toArray, List.set_cons_zero, List.set_cons_succ, i64_w, i32_w]
    rfl
  refine pure_ (i := 2) (N := some 27) (v := ?_) (a' := ?_) #[true, true, true, false, false, false, false, false, false, false] rfl rfl (any_of HT_.out (by kernel_rfl)) (fun _ _ _ h => h) (Or.inl ⟨by rfl, ?_⟩) ?_ ?_
  rotate_left
  · intro w'
    go_simp
    with_reducible rfl
  rotate_left
  · simp only [Act.put, List.setIfInBounds_toArray, List.set_cons_zero, List.set_cons_succ, i64_w, i32_w]
    rfl
  refine pure_ (i := 3) (N := some 28) (v := ?_) (a' := ?_) #[true, true, true, true, false, false, false, false, false, false] rfl rfl (any_of HT_.out (by kernel_rfl)) (fun _ _ _ h => h) (Or.inl ⟨by rfl, ?_⟩) ?_ ?_
  rotate_left
  · intro w'
    go_simp
    with_reducible rfl
  rotate_left
  · simp only [Act.put, List.setIfInBounds_toArray, List.set_cons_zero, List.set_cons_succ, i64_w, i32_w]
    rfl
  refine pure_ (i := 4) (N := some 29) (v := ?_) (a' := ?_) #[true, true, true, true, true, false, false, false, false, false] rfl rfl (any_of HT_.out (by kernel_rfl)) (fun _ _ _ h => h) (Or.inl ⟨by rfl, ?_⟩) ?_ ?_
  rotate_left
  · intro w'
    go_simp
    with_reducible rfl
  rotate_left
  · simp only [Act.put, List.setIfInBounds_toArray, List.set_cons_zero, List.set_cons_succ, i64_w, i32_w]
    rfl
  refine take_ (i := 6) (N := some 31) (v := ?_) (a' := ?_) #[true, true, true, true, true, false, true, false, false, false] rfl rfl (take_ofW HT_.out HW_.out (by kernel_rfl)) (fun _ _ _ h => h) (Or.inl ⟨by rfl, ?_⟩) hHeld ?_ ?_
  rotate_left
  · rintro w' ⟨s0_, s1_⟩
    go_simp
    with_reducible rfl
  rotate_left
  · simp only [Act.put, List.setIfInBounds_toArray, List.set_cons_zero, List.set_cons_succ, i64_w, i32_w]
    rfl
  refine one_ (i := 5) (N := some 30) #[true, true, true, true, true, true, true, false, false, false] rfl rfl (one_of HT_.out (by kernel_rfl)) (by decide) (fun K hK => ?_)
  refine goes_ Tryd.func9 (by kernel_rfl) rfl #[v] (by rfl) rfl rfl (by (try simp only [List.map_toArray, List.map_cons, List.map_nil]); first | done | rfl) ?_
  refine (seen v f w.heap.size w8 ((HB.out.cell (World.block_lt_of_cell? w _ HG.out)).trans HG.out) HV.out).mono ?_
  rintro e' w9 ⟨rfl, hb⟩
  refine ⟨_, rfl, ?_⟩
  rw [HFA.out, HFC.out]
  have n1_ := Aside0.mk (below_step HB.out hb)
  have n2_ := Aside0.mk (blk_below BY.out hb)
  clear HB BY HV hb hHeld
  have HB := n1_
  have BY := n2_
  clear n1_ n2_
  refine hK.out _ _ ⟨(blk_cell BY.out 0).trans rfl, (blk_cell BY.out 1).trans rfl⟩ (fun hHeld => ?_)
  clear hK K
  refine norm_ (a' := ?_) ?_ ?_
  rotate_left
  · show Act.put _ (some 30) _ = _
    simp only [Act.put, List.setIfInBounds_toArray, List.set_cons_zero, List.set_cons_succ, i64_w, i32_w]
    rfl
  refine pure_ (i := 7) (N := some 32) (v := ?_) (a' := ?_) #[true, true, true, true, true, true, true, true, false, false] rfl rfl (any_of HT_.out (by kernel_rfl)) (fun _ _ _ h => h) (Or.inl ⟨by rfl, ?_⟩) ?_ ?_
  rotate_left
  · intro w'
    go_simp
    with_reducible rfl
  rotate_left
  · simp only [Act.put, List.setIfInBounds_toArray, List.set_cons_zero, List.set_cons_succ, i64_w, i32_w]
    rfl
  refine pure_ (i := 8) (N := some 33) (v := ?_) (a' := ?_) #[true, true, true, true, true, true, true, true, true, false] rfl rfl (any_of HT_.out (by kernel_rfl)) (fun _ _ _ h => h) (Or.inl ⟨by rfl, ?_⟩) ?_ ?_
  rotate_left
  · intro w'
    go_simp
    with_reducible rfl
  rotate_left
  · simp only [Act.put, List.setIfInBounds_toArray, List.set_cons_zero, List.set_cons_succ, i64_w, i32_w]
    rfl
  refine pure_ (i := 9) (N := some 6) (v := ?_) (a' := ?_) #[true, true, true, true, true, true, true, true, true, true] rfl rfl (any_of HT_.out (by kernel_rfl)) (fun _ _ _ h => h) (Or.inl ⟨by rfl, ?_⟩) ?_ ?_
  rotate_left
  · intro w'
    go_simp
    with_reducible rfl
  rotate_left
  · simp only [Act.put, List.setIfInBounds_toArray, List.set_cons_zero, List.set_cons_succ, i64_w, i32_w]
    rfl
  refine done_ (done_of HT_.out (by kernel_rfl)) ?_
  clear hHeld HT_ HW_
  go_wp2
  go_ret
  exact ⟨by first | rfl | (simp; done), HB.out⟩
end Go.Proofs.YtchhelmilbheoaaDoor.As
