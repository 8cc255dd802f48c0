/- InternTables: the walk of the law's function, where both sides tell the same. -/
import Derived.Test.YtglffceopijogaaDoorZBXx48
import Derived.Test.YtglffceopijogaaDoorZBXx69
import Derived.Test.YtglffceopijogaaDoorZBXx72
import Derived.Deep.OwnRows
import Derived.StringKeys
import Derived.Maps.OwnOps
import Derived.Maps.OwnSet
import Derived.Maps.Views
namespace Go.Proofs.YtglffceopijogaaDoor.X
open Go.RowKit Go.Proofs.YtglffceopijogaaDoorW.PrintWords Go.Proofs.YtglffceopijogaaDoorW.PrintLast Go.Proofs.YtglffceopijogaaDoorW.PrintMore
attribute [local go_sem] max2_int min2_int max_two min_two max_three min_three max_four min_four
open Go.Proofs.YtglffceopijogaaDoorW.HandWords
set_option linter.unusedVariables false
set_option linter.unusedSimpArgs false
namespace Lt
def TL3 : Bool × List (List Nat × List Nat) := (true, [([], []), ([0], [0]), ([], []), ([2], [2]), ([3], [3]), ([1, 1, 0, 1], [1]), ([4, 5, 0, 1, 2, 3, 4, 5], [4])])
def BL3 : List Nat := [0, 1, 0, 4, 12, 3, 63]
theorem tabL3 : rtab .any (opsOf Tryd.f6 3) = TL3 := by kernel_rfl
theorem bitsL3 : waitsOk TL3.2 BL3 = true := by kernel_rfl
def TL14 : Bool × List (List Nat × List Nat) := (true, [([], []), ([], []), ([], []), ([1, 2], [1, 2]), ([3], [3]), ([0, 4], [0, 4]), ([], []), ([], []), ([], []), ([7, 8], [7, 8]), ([9], [9]), ([6, 10, 5], [6, 10]), ([5, 11], [5, 11])])
def BL14 : List Nat := [0, 0, 0, 6, 14, 31, 0, 0, 0, 384, 896, 2047, 4095]
theorem tabL14 : rtab .any (opsOf Tryd.f6 14) = TL14 := by kernel_rfl
theorem bitsL14 : waitsOk TL14.2 BL14 = true := by kernel_rfl
def TL16 : Bool × List (List Nat × List Nat) := (true, [([], []), ([0], [0]), ([], []), ([2], [2]), ([3], [3]), ([4], [4]), ([5], [5]), ([1, 6], [1, 6])])
def BL16 : List Nat := [0, 1, 0, 4, 12, 28, 60, 127]
theorem tabL16 : rtab .any (opsOf Tryd.f6 16) = TL16 := by kernel_rfl
theorem bitsL16 : waitsOk TL16.2 BL16 = true := by kernel_rfl
def TK1 : Bool × List (List Nat × List Nat) := (true, [([], []), ([0], [0]), ([1], [1]), ([2], [2]), ([], []), ([], []), ([5], [5]), ([6], [6]), ([7], [7]), ([4, 8], [4, 8]), ([3, 9], [3, 9]), ([10], [10]), ([11], [11]), ([11], [11]), ([12, 9, 0, 1, 2, 3, 4, 5, 6, 7, 8, 9, 10, 11, 12], [12]), ([13, 14, 0, 1, 2, 3, 4, 5, 6, 7, 8, 9, 10, 11, 12, 13, 14], [13])])
def BK1 : List Nat := [0, 1, 3, 7, 0, 0, 32, 96, 224, 496, 1023, 2047, 4095, 4095, 8191, 32767]
theorem tabK1 : rtab .any (opsOf Tryd.f21 1) = TK1 := by kernel_rfl
theorem bitsK1 : waitsOk TK1.2 BK1 = true := by kernel_rfl
set_option maxHeartbeats 4000000 in
set_option maxRecDepth 100000 in
theorem look_p (gt gm : Nat) (o0 o1 o2 o3 o4 o5 : Bool) (w0 : World) (ks : List ByteArray) (line key : ByteArray) (w : World) (h : It.Tb gt gm o0 o1 o2 o3 o4 o5 w0 ks w) (hc : canon_Canon.f line o0 o1 o2 o3 o4 o5 = some key) (hz : key.size ≤ 1000000000) :
    Calls Tryd.prog 21 #[.pointer (some ⟨gt, 0, none⟩), .string line] w fun e w' => e = .returned (.tuple #[.int .i64 (It.ixi ks key), .bool (It.kin ks key)]) ∧ Below w.heap.size w w' := by
  have HT := Aside0.mk h
  have HC := Aside0.mk hc
  have HZ := Aside0.mk hz
  clear h hc hz
  go_enter Tryd.func21, Tryd.ntmps21
  go_upto_region 1 with (fail)
  have n1_ := Aside0.mk (HT.out.below ((Below.refl w.heap.size w).drew))
  have HB := Aside0.mk ((Below.refl w.heap.size w).drew)
  clear HT
  have HT := n1_
  clear n1_
  refine start_ (n := 16) (S := fun w' => w'.cell? ⟨gt, 0, none⟩ = some (.bool o0) ∧ w'.cell? ⟨gt, 1, none⟩ = some (.bool o1) ∧ w'.cell? ⟨gt, 2, none⟩ = some (.bool o2) ∧ w'.cell? ⟨gt, 3, none⟩ = some (.bool o3) ∧ w'.cell? ⟨gt, 4, none⟩ = some (.bool o4) ∧ w'.cell? ⟨gt, 5, none⟩ = some (.bool o5) ∧ w'.cell? ⟨gt, 6, none⟩ = some (.map (some gm)) ∧ (Instr.lookup 61 (.map (some gm)) (.string key) true).run Tryd.prog w' = .ok (.tuple #[.int .i64 (It.ixi ks key), .bool (It.kin ks key)]) w') (ds := []) #[false, false, false, false, false, false, false, false, false, false, false, false, false, false, false, false] (by kernel_rfl) rfl rfl ⟨(blk_cell HT.out.t 0).trans rfl, (blk_cell HT.out.t 1).trans rfl, (blk_cell HT.out.t 2).trans rfl, (blk_cell HT.out.t 3).trans rfl, (blk_cell HT.out.t 4).trans rfl, (blk_cell HT.out.t 5).trans rfl, (blk_cell HT.out.t 6).trans rfl, HT.out.m.look key (by have := HZ.out; unfold maxLen; omega)⟩ (fun hHeld => ?_)
  refine with_tabW tabK1 bitsK1 (fun HT_ HW_ => ?_)
  generalize w.drew = w5 at HT HB hHeld ⊢
  refine pure_ (i := 0) (N := some 9) (v := ?_) (a' := ?_) #[true, false, false, false, false, false, false, false, false, false, false, false, false, false, false, false] rfl rfl (any_of HT_.out (by kernel_rfl)) (fun _ _ _ h => h) (Or.inl ⟨by rfl, ?_⟩) ?_ ?_
  rotate_left
  · intro w'
    go_simp
    with_reducible rfl
  rotate_left
  · simp only [Act.put, List.setIfInBounds_toArray, List.set_cons_zero, List.set_cons_succ, i64_w, i32_w]
    rfl
  refine pure_ (i := 1) (N := some 10) (v := ?_) (a' := ?_) #[true, true, false, false, false, false, false, false, false, false, false, false, false, false, false, false] rfl rfl (any_of HT_.out (by kernel_rfl)) (fun _ _ _ h => h) (Or.inl ⟨by rfl, ?_⟩) ?_ ?_
  rotate_left
  · intro w'
    go_simp
    with_reducible rfl
  rotate_left
  · simp only [Act.put, List.setIfInBounds_toArray, List.set_cons_zero, List.set_cons_succ, i64_w, i32_w]
    rfl
  refine pure_ (i := 2) (N := some 11) (v := ?_) (a' := ?_) #[true, true, true, false, false, false, false, false, false, false, false, false, false, false, false, false] rfl rfl (any_of HT_.out (by kernel_rfl)) (fun _ _ _ h => h) (Or.inl ⟨by rfl, ?_⟩) ?_ ?_
  rotate_left
  · intro w'
    go_simp
    with_reducible rfl
  rotate_left
  · simp only [Act.put, List.setIfInBounds_toArray, List.set_cons_zero, List.set_cons_succ, i64_w, i32_w]
    rfl
  refine take_ (i := 3) (N := some 12) (v := ?_) (a' := ?_) #[true, true, true, true, false, false, false, false, false, false, false, false, false, false, false, false] rfl rfl (take_ofW HT_.out HW_.out (by kernel_rfl)) (fun _ _ _ h => h) (Or.inl ⟨by rfl, ?_⟩) hHeld ?_ ?_
  rotate_left
  · rintro w' ⟨s0, s1, s2, s3, s4, s5, s6, s7⟩
    go_simp
    with_reducible rfl
  rotate_left
  · simp only [Act.put, List.setIfInBounds_toArray, List.set_cons_zero, List.set_cons_succ, i64_w, i32_w]
    rfl
  refine pure_ (i := 4) (N := some 13) (v := ?_) (a' := ?_) #[true, true, true, true, true, false, false, false, false, false, false, false, false, false, false, false] rfl rfl (any_of HT_.out (by kernel_rfl)) (fun _ _ _ h => h) (Or.inl ⟨by rfl, ?_⟩) ?_ ?_
  rotate_left
  · intro w'
    go_simp
    with_reducible rfl
  rotate_left
  · simp only [Act.put, List.setIfInBounds_toArray, List.set_cons_zero, List.set_cons_succ, i64_w, i32_w]
    rfl
  refine pure_ (i := 5) (N := some 14) (v := ?_) (a' := ?_) #[true, true, true, true, true, true, false, false, false, false, false, false, false, false, false, false] rfl rfl (any_of HT_.out (by kernel_rfl)) (fun _ _ _ h => h) (Or.inl ⟨by rfl, ?_⟩) ?_ ?_
  rotate_left
  · intro w'
    go_simp
    with_reducible rfl
  rotate_left
  · simp only [Act.put, List.setIfInBounds_toArray, List.set_cons_zero, List.set_cons_succ, i64_w, i32_w]
    rfl
  refine pure_ (i := 6) (N := some 15) (v := ?_) (a' := ?_) #[true, true, true, true, true, true, true, false, false, false, false, false, false, false, false, false] rfl rfl (any_of HT_.out (by kernel_rfl)) (fun _ _ _ h => h) (Or.inl ⟨by rfl, ?_⟩) ?_ ?_
  rotate_left
  · intro w'
    go_simp
    with_reducible rfl
  rotate_left
  · simp only [Act.put, List.setIfInBounds_toArray, List.set_cons_zero, List.set_cons_succ, i64_w, i32_w]
    rfl
  refine pure_ (i := 7) (N := some 16) (v := ?_) (a' := ?_) #[true, true, true, true, true, true, true, true, false, false, false, false, false, false, false, false] rfl rfl (any_of HT_.out (by kernel_rfl)) (fun _ _ _ h => h) (Or.inl ⟨by rfl, ?_⟩) ?_ ?_
  rotate_left
  · intro w'
    go_simp
    with_reducible rfl
  rotate_left
  · simp only [Act.put, List.setIfInBounds_toArray, List.set_cons_zero, List.set_cons_succ, i64_w, i32_w]
    rfl
  refine take_ (i := 8) (N := some 17) (v := ?_) (a' := ?_) #[true, true, true, true, true, true, true, true, true, false, false, false, false, false, false, false] rfl rfl (take_ofW HT_.out HW_.out (by kernel_rfl)) (fun _ _ _ h => h) (Or.inl ⟨by rfl, ?_⟩) hHeld ?_ ?_
  rotate_left
  · rintro w' ⟨s0, s1, s2, s3, s4, s5, s6, s7⟩
    go_simp
    with_reducible rfl
  rotate_left
  · simp only [Act.put, List.setIfInBounds_toArray, List.set_cons_zero, List.set_cons_succ, i64_w, i32_w]
    rfl
  refine one_ (i := 9) (N := some 18) #[true, true, true, true, true, true, true, true, true, true, false, false, false, false, false, false] rfl rfl (one_of HT_.out (by kernel_rfl)) (by decide) (fun K hK => ?_)
  refine goes_ Tryd.func10 (by kernel_rfl) rfl #[.string line, .agg #[.bool o0, .bool o1, .bool o2, .bool o3, .bool o4, .bool o5]] (by rfl) rfl rfl (by (try simp only [List.map_toArray, List.map_cons, List.map_nil]); first | done | rfl) ?_
  refine (canon_Canon.calls line o0 o1 o2 o3 o4 o5 key w5 HC.out).mono ?_
  rintro e' w6 ⟨rfl, hb⟩
  refine ⟨_, rfl, ?_⟩
  have n1_ := Aside0.mk (HT.out.below hb)
  have n2_ := Aside0.mk (below_step HB.out hb)
  clear HT HB hb hHeld
  have HT := n1_
  have HB := n2_
  clear n1_ n2_
  refine hK.out _ _ ⟨(blk_cell HT.out.t 0).trans rfl, (blk_cell HT.out.t 1).trans rfl, (blk_cell HT.out.t 2).trans rfl, (blk_cell HT.out.t 3).trans rfl, (blk_cell HT.out.t 4).trans rfl, (blk_cell HT.out.t 5).trans rfl, (blk_cell HT.out.t 6).trans rfl, HT.out.m.look key (by have := HZ.out; unfold maxLen; omega)⟩ (fun hHeld => ?_)
  clear hK K
  refine norm_ (a' := ?_) ?_ ?_
  rotate_left
  · show Act.put _ (some 18) _ = _
    simp only [Act.put, List.setIfInBounds_toArray, List.set_cons_zero, List.set_cons_succ, i64_w, i32_w]
    rfl
  refine take_ (i := 10) (N := some 19) (v := ?_) (a' := ?_) #[true, true, true, true, true, true, true, true, true, true, true, false, false, false, false, false] rfl rfl (take_ofW HT_.out HW_.out (by kernel_rfl)) (fun _ _ _ h => h) (Or.inl ⟨by rfl, ?_⟩) hHeld ?_ ?_
  rotate_left
  · rintro w' ⟨s0, s1, s2, s3, s4, s5, s6, s7⟩
    go_simp
    with_reducible rfl
  rotate_left
  · simp only [Act.put, List.setIfInBounds_toArray, List.set_cons_zero, List.set_cons_succ, i64_w, i32_w]
    rfl
  refine pure_ (i := 11) (N := some 8) (v := ?_) (a' := ?_) #[true, true, true, true, true, true, true, true, true, true, true, true, false, false, false, false] rfl rfl (any_of HT_.out (by kernel_rfl)) (fun _ _ _ h => h) (Or.inl ⟨by rfl, ?_⟩) ?_ ?_
  rotate_left
  · intro w'
    go_simp
    with_reducible rfl
  rotate_left
  · simp only [Act.put, List.setIfInBounds_toArray, List.set_cons_zero, List.set_cons_succ, i64_w, i32_w]
    rfl
  refine pure_ (i := 12) (N := some 20) (v := ?_) (a' := ?_) #[true, true, true, true, true, true, true, true, true, true, true, true, true, false, false, false] rfl rfl (any_of HT_.out (by kernel_rfl)) (fun _ _ _ h => h) (Or.inl ⟨by rfl, ?_⟩) ?_ ?_
  rotate_left
  · intro w'
    go_simp
    with_reducible rfl
  rotate_left
  · simp only [Act.put, List.setIfInBounds_toArray, List.set_cons_zero, List.set_cons_succ, i64_w, i32_w]
    rfl
  refine pure_ (i := 13) (N := some 21) (v := ?_) (a' := ?_) #[true, true, true, true, true, true, true, true, true, true, true, true, true, true, false, false] rfl rfl (any_of HT_.out (by kernel_rfl)) (fun _ _ _ h => h) (Or.inl ⟨by rfl, ?_⟩) ?_ ?_
  rotate_left
  · intro w'
    go_simp
    with_reducible rfl
  rotate_left
  · simp only [Act.put, List.setIfInBounds_toArray, List.set_cons_zero, List.set_cons_succ, i64_w, i32_w]
    rfl
  refine pure_ (i := 14) (N := some 6) (v := ?_) (a' := ?_) #[true, true, true, true, true, true, true, true, true, true, true, true, true, true, true, false] rfl rfl (any_of HT_.out (by kernel_rfl)) (fun _ _ _ h => h) (Or.inl ⟨by rfl, ?_⟩) ?_ ?_
  rotate_left
  · intro w'
    go_simp
    with_reducible rfl
  rotate_left
  · simp only [Act.put, List.setIfInBounds_toArray, List.set_cons_zero, List.set_cons_succ, i64_w, i32_w]
    rfl
  refine pure_ (i := 15) (N := some 7) (v := ?_) (a' := ?_) #[true, true, true, true, true, true, true, true, true, true, true, true, true, true, true, true] rfl rfl (any_of HT_.out (by kernel_rfl)) (fun _ _ _ h => h) (Or.inl ⟨by rfl, ?_⟩) ?_ ?_
  rotate_left
  · intro w'
    go_simp
    with_reducible rfl
  rotate_left
  · simp only [Act.put, List.setIfInBounds_toArray, List.set_cons_zero, List.set_cons_succ, i64_w, i32_w]
    rfl
  refine done_ (done_of HT_.out (by kernel_rfl)) ?_
  clear hHeld
  go_wp2
  go_ret2
  exact ⟨rfl, HB.out⟩
set_option maxHeartbeats 4000000 in
set_option maxRecDepth 100000 in
theorem classm_ (k gr : Nat) (o0 o1 o2 o3 o4 o5 : Bool) (w0 : World) (l : List ByteArray) (v : Value) (line : ByteArray) (r1 : Int) (l2 : List ByteArray) (w : World) (h : Rt.Tq gr o0 o1 o2 o3 o4 o5 w0 l v w) (hl : l.length ≤ 100000000) (hf : Rt.cls k o0 o1 o2 o3 o4 o5 l line = some (r1, l2)) :
    Calls Tryd.prog 24 #[.pointer (some ⟨gr, 0, none⟩), .string line] w fun e w' => e = .returned (.int .i64 r1) ∧ (∃ v', Rt.Tq gr o0 o1 o2 o3 o4 o5 w0 l2 v' w') ∧ ∀ (g : Nat) (o : Obj), (∀ cs fr, o ≠ .cells cs 36 fr) → (∀ cs fr, o ≠ .cells cs 9 fr) → w.heap[g]? = some o → w'.heap[g]? = some o := by
  obtain ⟨A1, c1, rfl⟩ := Kd.R_slice h.r
  unfold Rt.cls at hf
  obtain ⟨⟨t1, t2⟩, ht, hf⟩ := Option.bind_eq_some_iff.mp hf
  have HT := Aside0.mk h
  have HL := Aside0.mk hl
  have HF := Aside0.mk ht
  clear h hl ht
  go_enter Tryd.func24, Tryd.ntmps24
  go_upto_region 2 with (go_at_call 22; refine (Rt.look_ k gr o0 o1 o2 o3 o4 o5 w0 l A1 c1 line t1 t2 w HT.out HL.out HF.out).mono ?_; rintro e w1 ⟨rfl, hb⟩; have HBB := Aside0.mk hb; have n1_ := Aside0.mk (HT.out.below hb); clear HT hb; have HT := n1_; clear n1_)
  have c6 := (blk_cell HT.out.t 6).trans (show _ = some (Value.slice A1 l.length c1) from rfl)
  have z6 := blk_frozen HT.out.t 6
  cases t2 with
  | true =>
    rw [if_pos rfl] at hf
    simp only [Option.some.injEq, Prod.mk.injEq] at hf
    obtain ⟨rfl, rfl⟩ := hf
    go_wp2
    go_ret
    exact ⟨rfl, ⟨_, HT.out⟩, fun g o _ _ h => blk_below h HBB.out⟩
  | false =>
    rw [if_neg Bool.false_ne_true] at hf
    simp only [Option.some.injEq, Prod.mk.injEq] at hf
    obtain ⟨rfl, rfl⟩ := hf
    go_wp2_with ((with_reducible refine gate_builtin (b := .append) (xs := #[.tmp 24, .tmp 26]) rfl ?_); at_builtin; refine Kd.R_append Kd.string (w0 := w0) w0.heap.size rfl (.tmp 24) (.tmp 26) 30 9 (.string ⟨#[]⟩) 16 rfl Tryd.underlying30 (by kernel_rfl) rfl (by decide) (by omega) (.slice A1 l.length c1) l line [.string line] (fun _ => True) (fun _ => False) rfl rfl ?aP (fun _ hk => hk.elim) ?aF ?aO ?aB ?aS ?aL ?_; (case aP => exact rfl); (case aB => exact HT.out.b); (case aF => exact (fun _ _ => trivial)); (case aO => exact HT.out.r); (case aS => exact HT.out.b.size); (case aL => have := HL.out; omega); intro v3 w3 ho hb hg hat; obtain ⟨A3, c3, rfl⟩ := Kd.R_slice ho; have n1_ := Aside0.mk (blk_grown HT.out.t hg (Kd.R_ne HT.out.r HT.out.t (by decide))); have n2_ := Aside0.mk ho; have n3_ := Aside0.mk hb; have n4_ := Aside0.mk hg; have n5_ := Aside0.mk HT.out.g; have n6_ := Aside0.mk HT.out.t; have n7_ := Aside0.mk HT.out.r; clear HT c6 z6 ho hb hg hat; have c6 := (blk_cell n1_.out 6).trans (show _ = some (Value.slice A1 l.length c1) from rfl); have z6 := blk_frozen n1_.out 6)
    go_ret
    have n2b := n2_.out
    rw [List.length_append, List.length_singleton] at n2b
    refine ⟨rfl, ⟨.slice A3 (l.length + 1) c3, blk_put n1_.out 6 _ rfl, Kd.R_set n2b n1_.out (by intro q hq; have e : (Kd.string).E = [] := rfl; rw [e] at hq; simp only [List.mem_cons, List.not_mem_nil, or_false] at hq; subst hq; decide) 6 _, n3_.out.setCell n5_.out _, n5_.out⟩, ?_⟩
    intro g o h1 h2 h
    have h3 := blk_below h HBB.out
    have h4 := blk_grown h3 n4_.out (fun e => by obtain ⟨cells, hc⟩ := Kd.R_typed n7_.out g e.symm; rw [hc] at h3; exact h2 _ _ (Option.some.inj h3).symm)
    exact (Below.heap_setCell w3 ⟨gr, 6, none⟩ _ g (fun e => by have e2 : g = gr := e; subst e2; rw [n1_.out] at h4; exact h1 _ _ (Option.some.inj h4).symm)).trans h4
section
variable {gt gm gr : Nat} {o0 o1 o2 o3 o4 o5 : Bool} {w0 : World} {l : List ByteArray} {ks : List ByteArray} {v : Value} {W : World}
/-- the reference's table, over what the program's class does -/
theorem tq_over {ks2 : List ByteArray} (p : It.Tb gt gm o0 o1 o2 o3 o4 o5 w0 ks W) (q : Rt.Tq gr o0 o1 o2 o3 o4 o5 w0 l v W) {w1 w2 : World} (p2 : It.Tb gt gm o0 o1 o2 o3 o4 o5 w0 ks2 w2) (hb : Below W.heap.size W w1) (hg : w1.grownBy w2 (some gm)) : Rt.Tq gr o0 o1 o2 o3 o4 o5 w0 l v w2 := by
  have h1 := q.below hb
  have hne : ∀ {k : Nat} {cs : Array Value} {t : TypeId} {fr : Nat × Nat}, w1.heap[k]? = some (.cells cs t fr) → gm ≠ k := fun h => (p.below hb).m.ne h
  refine ⟨blk_grown h1.t hg (fun e => hne h1.t (Option.some.inj e).symm), Kd.R_grown1 h1.r rfl hg (fun e => ?_), p2.b, q.g⟩
  obtain ⟨cells, hc⟩ := Kd.R_typed h1.r gm e.symm
  exact hne hc rfl
/-- the program's table, over what the reference's class does -/
theorem tb_over {l2 : List ByteArray} {v2 : Value} {w2 : World} (p : It.Tb gt gm o0 o1 o2 o3 o4 o5 w0 ks W) (q2 : Rt.Tq gr o0 o1 o2 o3 o4 o5 w0 l2 v2 w2) (hf : ∀ (g : Nat) (o : Obj), (∀ cs fr, o ≠ .cells cs 36 fr) → (∀ cs fr, o ≠ .cells cs 9 fr) → W.heap[g]? = some o → w2.heap[g]? = some o) : It.Tb gt gm o0 o1 o2 o3 o4 o5 w0 ks w2 := by
  refine ⟨hf _ _ (fun cs fr e => by injection e with _ e2; revert e2; decide) (fun cs fr e => by injection e with _ e2; revert e2; decide) p.t, ?_, q2.b, p.g1, p.g2⟩
  have hm := p.m
  obtain ⟨D, ⟨es, clock, h2, h4⟩, h3⟩ := hm
  exact p.m.same ((hf _ _ (fun cs fr e => by cases e) (fun cs fr e => by cases e) h2).trans h2.symm)
end
/-- both tables answer alike, line by line -/
def good (k : Nat) (o0 o1 o2 o3 o4 o5 : Bool) (fl : Nat → Bool) : Nat → List ByteArray → List ByteArray → List ByteArray → Prop
  | _, _, _, [] => True
  | i, l, ks, s :: r => ∃ key, canon_Canon.f s o0 o1 o2 o3 o4 o5 = some key ∧ key.size ≤ 1000000000 ∧ ((fl i = true ∧ Rt.lookr k o0 o1 o2 o3 o4 o5 s l 0 = some (It.ixi ks key, It.kin ks key) ∧ good k o0 o1 o2 o3 o4 o5 fl (i + 1) l ks r) ∨ (fl i = false ∧ ∃ l2, Rt.cls k o0 o1 o2 o3 o4 o5 l s = some ((It.ix (It.ad ks key) key : Int), l2) ∧ l2.length = (It.ad ks key).length ∧ good k o0 o1 o2 o3 o4 o5 fl (i + 1) l2 (It.ad ks key) r))
end Lt
open Lt
set_option maxHeartbeats 16000000 in
set_option maxRecDepth 100000 in
theorem redlinelaw04_InternTables.walk (k : Nat) (A0 : Option Addr) (c0 : Nat) (l0 : List ByteArray) (A1 : Option Addr) (c1 : Nat) (l1 : List Bool) (o0 o1 o2 o3 o4 o5 : Bool) (w : World) (hr0 : Kd.C Kd.string w A0 l0.length l0) (hc0 : l0.length ≤ c0) (hr1 : Kd.C Kd.bool w A1 l1.length l1) (hc1 : l1.length ≤ c1)
    (hg : l0.length ≤ 300 → good k o0 o1 o2 o3 o4 o5 (fun i => decide (i < l1.length) && l1.getD i false) 0 [] [] l0) :
    Calls Tryd.prog 6 #[.slice A0 l0.length c0, .slice A1 l1.length c1, .agg #[.bool o0, .bool o1, .bool o2, .bool o3, .bool o4, .bool o5]] w fun e w' => e = .returned (.bool true) ∧ Below w.heap.size w w' := by
  have HR0 := Aside0.mk hr0
  have HR1 := Aside0.mk hr1
  have HG := Aside0.mk hg
  have HB := Aside0.mk (Below.refl w.heap.size w)
  clear hr0 hr1 hg
  go_enter Tryd.func6, Tryd.ntmps6
  go_upto_region 1 with ((with_reducible refine gate_dst (N := 5) rfl ?_); refine box_event ?hg (N := 5) ?hd (cs := #[.bool o0, .bool o1, .bool o2, .bool o3, .bool o4, .bool o5]) (t := 23) ?hr ?_; (case hd => rfl); (case hg => rfl); (case hr => first | (go_simp; done) | (go_simp; rfl)); intro go hg w1 hbox hb; have n1_ := Aside0.mk (below_step HB.out hb); clear HB; have HB := n1_; clear n1_; have HO := Aside0.mk hbox; clear hbox hb hg)
  by_cases h300 : (l0.length : Int) > 300
  · have p300 := decide_eq_true h300
    go_wp2
    go_ret
    exact ⟨rfl, HB.out⟩
  have p300 := decide_eq_false h300
  have n1_ := Aside0.mk (HG.out (by omega))
  have HL := Aside0.mk (show l0.length ≤ 300 by omega)
  clear HG h300
  have HG := n1_
  clear n1_
  go_upto_region 3 with (fail)
  clear p300
  have n1_ := Aside0.mk (blk_drew HO.out)
  have n2_ := Aside0.mk (below_drew1 HB.out)
  clear HO HB
  have HO := n1_
  have HB := n2_
  clear n1_ n2_
  refine start_ (n := 7) (S := fun w' => w'.cell? ⟨go, 0, none⟩ = some (.bool o0) ∧ w'.cell? ⟨go, 1, none⟩ = some (.bool o1) ∧ w'.cell? ⟨go, 2, none⟩ = some (.bool o2) ∧ w'.cell? ⟨go, 3, none⟩ = some (.bool o3) ∧ w'.cell? ⟨go, 4, none⟩ = some (.bool o4) ∧ w'.cell? ⟨go, 5, none⟩ = some (.bool o5)) (ds := []) #[false, false, false, false, false, false, false] (by kernel_rfl) rfl rfl ⟨(blk_cell HO.out 0).trans rfl, (blk_cell HO.out 1).trans rfl, (blk_cell HO.out 2).trans rfl, (blk_cell HO.out 3).trans rfl, (blk_cell HO.out 4).trans rfl, (blk_cell HO.out 5).trans rfl⟩ (fun hHeld => ?_)
  refine with_tabW tabL3 bitsL3 (fun HT_ HW_ => ?_)
  generalize w1.drew = w5 at HO HB hHeld ⊢
  refine take_ (i := 0) (N := some 17) (v := ?_) (a' := ?_) #[true, false, false, false, false, false, false] rfl rfl (take_ofW HT_.out HW_.out (by kernel_rfl)) (fun _ _ _ h => h) (Or.inl ⟨by rfl, ?_⟩) hHeld ?_ ?_
  rotate_left
  · rintro w' ⟨s0, s1, s2, s3, s4, s5⟩
    go_simp
    with_reducible rfl
  rotate_left
  · simp only [Act.put, List.setIfInBounds_toArray, List.set_cons_zero, List.set_cons_succ, i64_w, i32_w]
    rfl
  refine take_ (i := 2) (N := some 19) (v := ?_) (a' := ?_) #[true, false, true, false, false, false, false] rfl rfl (take_ofW HT_.out HW_.out (by kernel_rfl)) (fun _ _ _ h => h) (Or.inl ⟨by rfl, ?_⟩) hHeld ?_ ?_
  rotate_left
  · rintro w' ⟨s0, s1, s2, s3, s4, s5⟩
    go_simp
    with_reducible rfl
  rotate_left
  · simp only [Act.put, List.setIfInBounds_toArray, List.set_cons_zero, List.set_cons_succ, i64_w, i32_w]
    rfl
  refine pure_ (i := 3) (N := some 20) (v := ?_) (a' := ?_) #[true, false, true, true, false, false, false] rfl rfl (any_of HT_.out (by kernel_rfl)) (fun _ _ _ h => h) (Or.inl ⟨by rfl, ?_⟩) ?_ ?_
  rotate_left
  · intro w'
    go_simp
    with_reducible rfl
  rotate_left
  · simp only [Act.put, List.setIfInBounds_toArray, List.set_cons_zero, List.set_cons_succ, i64_w, i32_w]
    rfl
  refine join_ (σ := Nat × Nat × Nat) 1 #[true, true, true, true, true, true, false] (fun s_ => [(18, .pointer (some ⟨s_.1, 0, none⟩)), (21, .pointer (some ⟨s_.2.2, 0, none⟩)), (7, .pointer (some ⟨s_.1, 0, none⟩))]) (fun s_ w' => It.Tb s_.1 s_.2.1 o0 o1 o2 o3 o4 o5 w [] w' ∧ Rt.Tq s_.2.2 o0 o1 o2 o3 o4 o5 w [] (.slice none 0 0) w') ?_ ?_
  rotate_left
  · intro hCont
    refine two_ (i := 1) (j := 4) (Ni := some 18) (Nj := some 21) #[true, true, true, true, false, false, false] #[true, false, true, true, true, false, false] rfl rfl rfl rfl (two_of HT_.out (by kernel_rfl)) (by decide) (by decide) (fun K hK => ?_) (fun K hK => ?_)
    · skip
      refine goes_ Tryd.func19 (by kernel_rfl) rfl #[.agg #[.bool o0, .bool o1, .bool o2, .bool o3, .bool o4, .bool o5]] (by rfl) rfl rfl (by (try simp only [List.map_toArray, List.map_cons, List.map_nil]); first | done | rfl) ?_
      refine (It.new o0 o1 o2 o3 o4 o5 w5).mono ?_
      rintro e' w6 ⟨gt, gm, rfl, ht⟩
      refine ⟨_, rfl, ?_⟩
      have HT : Aside0 (It.Tb gt gm o0 o1 o2 o3 o4 o5 w [] w6) := ⟨⟨ht.t, ht.m, below_step HB.out ht.b, Nat.le_trans HB.out.size ht.g1, Nat.le_trans HB.out.size ht.g2⟩⟩
      have n1_ := Aside0.mk (blk_below HO.out ht.b)
      have n2_ := Aside0.mk (below_step HB.out ht.b)
      clear HO HB ht hHeld
      have HO := n1_
      have HB := n2_
      clear n1_ n2_
      refine hK.out _ _ ⟨(blk_cell HO.out 0).trans rfl, (blk_cell HO.out 1).trans rfl, (blk_cell HO.out 2).trans rfl, (blk_cell HO.out 3).trans rfl, (blk_cell HO.out 4).trans rfl, (blk_cell HO.out 5).trans rfl⟩ (fun hHeld => ?_)
      clear hK K
      refine norm_ (a' := ?_) ?_ ?_
      rotate_left
      · show Act.put _ (some 18) _ = _
        simp only [Act.put, List.setIfInBounds_toArray, List.set_cons_zero, List.set_cons_succ, i64_w, i32_w]
        rfl
      refine pure_ (i := 5) (N := some 7) (v := ?_) (a' := ?_) #[true, true, true, true, false, true, false] rfl rfl (any_of HT_.out (by kernel_rfl)) (fun _ _ _ h => h) (Or.inl ⟨by rfl, ?_⟩) ?_ ?_
      rotate_left
      · intro w'
        go_simp
        with_reducible rfl
      rotate_left
      · simp only [Act.put, List.setIfInBounds_toArray, List.set_cons_zero, List.set_cons_succ, i64_w, i32_w]
        rfl
      refine one_ (i := 4) (N := some 21) #[true, true, true, true, true, true, false] rfl rfl (one_of HT_.out (by kernel_rfl)) (by decide) (fun K hK => ?_)
      refine value_ (v := .pointer (some ⟨w6.heap.size, 0, none⟩)) (w1 := w6.alloc (.cells #[.bool o0, .bool o1, .bool o2, .bool o3, .bool o4, .bool o5, .slice none 0 0] 36)) (by rfl) rfl (by first | (go_simp; done) | (go_simp; rfl)) ?_
      obtain ⟨gr, hgr⟩ : ∃ gr, w6.heap.size = gr := ⟨_, rfl⟩
      have n0_ := (Below.refl w6.heap.size w6).alloc (Nat.le_refl _) (.cells #[.bool o0, .bool o1, .bool o2, .bool o3, .bool o4, .bool o5, .slice none 0 0] 36)
      have n1_ := blk_new w6 (.cells #[.bool o0, .bool o1, .bool o2, .bool o3, .bool o4, .bool o5, .slice none 0 0] 36)
      have n4_ := Aside0.mk (below_step HB.out n0_)
      have n5_ := Aside0.mk (blk_below HO.out n0_)
      have n6_ := Aside0.mk (HT.out.below n0_)
      have hge : w.heap.size ≤ gr := by rw [← hgr]; exact HB.out.size
      rw [hgr] at n1_ ⊢
      clear n0_ hHeld HO HB HT hgr
      generalize World.alloc w6 _ = w7 at n1_ n4_ n5_ n6_ ⊢
      have HB := n4_
      have HO := n5_
      have HQ : Aside0 (Rt.Tq gr o0 o1 o2 o3 o4 o5 w [] (.slice none 0 0) w7) := ⟨⟨n1_, Kd.R_nil _ _ _ _ _, n4_.out, hge⟩⟩
      have HT := n6_
      clear n1_ n4_ n5_ n6_ hge
      refine hK.out _ _ ⟨(blk_cell HO.out 0).trans rfl, (blk_cell HO.out 1).trans rfl, (blk_cell HO.out 2).trans rfl, (blk_cell HO.out 3).trans rfl, (blk_cell HO.out 4).trans rfl, (blk_cell HO.out 5).trans rfl⟩ (fun hHeld => ?_)
      clear hK K
      refine norm_ (a' := ?_) ?_ ?_
      rotate_left
      · show Act.put _ (some 21) _ = _
        simp only [Act.put, List.setIfInBounds_toArray, List.set_cons_zero, List.set_cons_succ, i64_w, i32_w]
        rfl
      exact norm_ (by simp only [putAll, Act.put, List.setIfInBounds_toArray, List.set_cons_zero, List.set_cons_succ]) (hCont (gt, gm, gr) _ ⟨HT.out, HQ.out⟩)
    · skip
      refine value_ (v := .pointer (some ⟨w5.heap.size, 0, none⟩)) (w1 := w5.alloc (.cells #[.bool o0, .bool o1, .bool o2, .bool o3, .bool o4, .bool o5, .slice none 0 0] 36)) (by rfl) rfl (by first | (go_simp; done) | (go_simp; rfl)) ?_
      obtain ⟨gr, hgr⟩ : ∃ gr, w5.heap.size = gr := ⟨_, rfl⟩
      have n0_ := (Below.refl w5.heap.size w5).alloc (Nat.le_refl _) (.cells #[.bool o0, .bool o1, .bool o2, .bool o3, .bool o4, .bool o5, .slice none 0 0] 36)
      have n1_ := blk_new w5 (.cells #[.bool o0, .bool o1, .bool o2, .bool o3, .bool o4, .bool o5, .slice none 0 0] 36)
      have n4_ := Aside0.mk (below_step HB.out n0_)
      have n5_ := Aside0.mk (blk_below HO.out n0_)
      have hge : w.heap.size ≤ gr := by rw [← hgr]; exact HB.out.size
      rw [hgr] at n1_ ⊢
      clear n0_ hHeld HO HB hgr
      generalize World.alloc w5 _ = w6 at n1_ n4_ n5_ ⊢
      have HB := n4_
      have HO := n5_
      have HQ : Aside0 (Rt.Tq gr o0 o1 o2 o3 o4 o5 w [] (.slice none 0 0) w6) := ⟨⟨n1_, Kd.R_nil _ _ _ _ _, n4_.out, hge⟩⟩
      clear n1_ n4_ n5_ hge
      refine hK.out _ _ ⟨(blk_cell HO.out 0).trans rfl, (blk_cell HO.out 1).trans rfl, (blk_cell HO.out 2).trans rfl, (blk_cell HO.out 3).trans rfl, (blk_cell HO.out 4).trans rfl, (blk_cell HO.out 5).trans rfl⟩ (fun hHeld => ?_)
      clear hK K
      refine norm_ (a' := ?_) ?_ ?_
      rotate_left
      · show Act.put _ (some 21) _ = _
        simp only [Act.put, List.setIfInBounds_toArray, List.set_cons_zero, List.set_cons_succ, i64_w, i32_w]
        rfl
      refine one_ (i := 1) (N := some 18) #[true, true, true, true, true, false, false] rfl rfl (one_of HT_.out (by kernel_rfl)) (by decide) (fun K hK => ?_)
      refine goes_ Tryd.func19 (by kernel_rfl) rfl #[.agg #[.bool o0, .bool o1, .bool o2, .bool o3, .bool o4, .bool o5]] (by rfl) rfl rfl (by (try simp only [List.map_toArray, List.map_cons, List.map_nil]); first | done | rfl) ?_
      refine (It.new o0 o1 o2 o3 o4 o5 w6).mono ?_
      rintro e' w7 ⟨gt, gm, rfl, ht⟩
      refine ⟨_, rfl, ?_⟩
      have HT : Aside0 (It.Tb gt gm o0 o1 o2 o3 o4 o5 w [] w7) := ⟨⟨ht.t, ht.m, below_step HB.out ht.b, Nat.le_trans HB.out.size ht.g1, Nat.le_trans HB.out.size ht.g2⟩⟩
      have n3_ := Aside0.mk (HQ.out.below ht.b)
      clear HQ
      have HQ := n3_
      clear n3_
      have n1_ := Aside0.mk (blk_below HO.out ht.b)
      have n2_ := Aside0.mk (below_step HB.out ht.b)
      clear HO HB ht hHeld
      have HO := n1_
      have HB := n2_
      clear n1_ n2_
      refine hK.out _ _ ⟨(blk_cell HO.out 0).trans rfl, (blk_cell HO.out 1).trans rfl, (blk_cell HO.out 2).trans rfl, (blk_cell HO.out 3).trans rfl, (blk_cell HO.out 4).trans rfl, (blk_cell HO.out 5).trans rfl⟩ (fun hHeld => ?_)
      clear hK K
      refine norm_ (a' := ?_) ?_ ?_
      rotate_left
      · show Act.put _ (some 18) _ = _
        simp only [Act.put, List.setIfInBounds_toArray, List.set_cons_zero, List.set_cons_succ, i64_w, i32_w]
        rfl
      refine pure_ (i := 5) (N := some 7) (v := ?_) (a' := ?_) #[true, true, true, true, true, true, false] rfl rfl (any_of HT_.out (by kernel_rfl)) (fun _ _ _ h => h) (Or.inl ⟨by rfl, ?_⟩) ?_ ?_
      rotate_left
      · intro w'
        go_simp
        with_reducible rfl
      rotate_left
      · simp only [Act.put, List.setIfInBounds_toArray, List.set_cons_zero, List.set_cons_succ, i64_w, i32_w]
        rfl
      exact norm_ (by simp only [putAll, Act.put, List.setIfInBounds_toArray, List.set_cons_zero, List.set_cons_succ]) (hCont (gt, gm, gr) _ ⟨HT.out, HQ.out⟩)
  rintro ⟨gt, gm, gr⟩ w8 ⟨ht, hq⟩
  have HT := Aside0.mk ht
  have HQ := Aside0.mk hq
  clear ht hq HO HB hHeld
  refine norm_ (a' := ?_) ?_ ?_
  rotate_left
  · simp only [putAll, Act.put, List.setIfInBounds_toArray, List.set_cons_zero, List.set_cons_succ]
    rfl
  refine pure_ (i := 6) (N := some 8) (v := ?_) (a' := ?_) #[true, true, true, true, true, true, true] rfl rfl (any_of HT_.out (by kernel_rfl)) (fun _ _ _ h => h) (Or.inl ⟨by rfl, ?_⟩) ?_ ?_
  rotate_left
  · intro w'
    go_simp
    with_reducible rfl
  rotate_left
  · simp only [Act.put, List.setIfInBounds_toArray, List.set_cons_zero, List.set_cons_succ, i64_w, i32_w]
    rfl
  refine done_ (done_of HT_.out (by kernel_rfl)) ?_
  clear HT_ HW_
  go_wp2_with (go_at_call 20; refine (It.size_ gt gm o0 o1 o2 o3 o4 o5 w [] w8 HT.out).mono ?_; rintro e w9 ⟨rfl, rfl⟩)
  go_loopg [9] l0.length (fun q v9 w' => ∃ (z : Nat) (l ks : List ByteArray) (v : Value), v9 = .int .i64 (z : Int) ∧ Aside0 (z + q = l0.length ∧ l.length = ks.length ∧ ks.length ≤ z) ∧ Aside0 (good k o0 o1 o2 o3 o4 o5 (fun i => decide (i < l1.length) && l1.getD i false) z l ks (l0.drop z)) ∧ Aside0 (It.Tb gt gm o0 o1 o2 o3 o4 o5 w ks w') ∧ Aside0 (Rt.Tq gr o0 o1 o2 o3 o4 o5 w l v w'))
  case atStart => exact ⟨0, [], [], _, rfl, ⟨by omega, rfl, by simp⟩, ⟨by rw [List.drop_zero]; exact HG.out⟩, HT, HQ⟩
  case round =>
    clear HG HT HQ
    obtain ⟨zn, l, ks, v, rfl, HZ, HG, HT, HQ⟩ := hrel
    obtain ⟨z, hz⟩ : ∃ z : Int, (zn : Int) = z := ⟨_, rfl⟩
    rw [hz]
    have hz1 : 0 ≤ z := by omega
    have hzt : z.toNat = zn := by omega
    cases gk with
    | zero =>
      have hzl : z = (l0.length : Int) := by have := HZ.out; omega
      subst hzl
      have hp : ((l0.length : Int) < (l0.length : Int)) = False := eq_false (Int.lt_irrefl _)
      go_wp2
      go_ret
      exact ⟨rfl, HT.out.b⟩
    | succ q1 =>
      have hzn : zn < l0.length := by have := HZ.out; omega
      have hzl : decide (z < (l0.length : Int)) = true := decide_eq_true (by omega)
      have hz3 := of_decide_eq_true hzl
      obtain ⟨ad0, ea0, hx0⟩ := Kd.at_string HR0.out z hz1 hz3
      cases ea0
      obtain ⟨s, hs⟩ : ∃ s, rdOf ByteArray.empty l0 z = s := ⟨_, rfl⟩
      rw [hs] at hx0
      have HX0 := Aside0.mk hx0
      have hd : l0.drop zn = s :: l0.drop (zn + 1) := by
        rw [← hs, List.drop_eq_getElem_cons hzn]
        simp [rdOf, hzt, List.getD_eq_getElem?_getD, hzn]
      have hgd := HG.out
      rw [hd] at hgd
      unfold good at hgd
      obtain ⟨key, hk1, hk2, hcase⟩ := hgd
      have HC := Aside0.mk hk1
      have HKZ := Aside0.mk hk2
      have p1 := eq_true hz1
      have p2 := eq_true hz3
      have hw : wrap64 (z + 1) = z + 1 := by have := HL.out; unfold wrap64; omega
      have HW := Aside0.mk hw
      have HZI := Aside0.mk hz
      have hv := Kd.R_slice HQ.out.r
      obtain ⟨A3, c3, hv⟩ := hv
      subst hv
      have HXS := Aside0.mk ((HT.out.b.cell (World.block_lt_of_cell? w _ hx0)).trans hx0)
      have HZT := Aside0.mk hzt
      clear hx0 hs hd hk1 hk2 hw HG hz hzt hzn
      by_cases hq : z < (l1.length : Int)
      · obtain ⟨ad1, ea1, hy⟩ := Kd.at_bool HR1.out z hz1 hq
        cases ea1
        have hys := (HT.out.b.cell (World.block_lt_of_cell? w _ hy)).trans hy
        obtain ⟨bz, hbz⟩ : ∃ bz, rdOf false l1 z = bz := ⟨_, rfl⟩
        rw [hbz] at hys
        have hfl : (decide (zn < l1.length) && l1.getD zn false) = bz := by
          rw [← hbz, decide_eq_true (show zn < l1.length by have := HZI.out; omega), Bool.true_and]
          simp only [rdOf, HZT.out]
        have p3 := eq_true hq
        have p4 := decide_eq_true hq
        clear hq hbz hy
        cases bz with
        | true =>
          replace hcase := hcase.elim (fun h => h.2) (fun h => by rw [hfl] at h; cases h.1)
          clear hfl
          obtain ⟨hlk, hg2⟩ := hcase
          have HF := Aside0.mk hlk
          have HG2 := Aside0.mk hg2
          have HLM := Aside0.mk (show (ks.length : Int) = (l.length : Int) by have := HZ.out; omega)
          have HLE := Aside0.mk (show ks.length ≤ ks.length + 1 by omega)
          clear hlk hg2
          obtain ⟨ii, hii⟩ : ∃ ii, It.ixi ks key = ii := ⟨_, rfl⟩
          obtain ⟨kb, hkb⟩ : ∃ kb, It.kin ks key = kb := ⟨_, rfl⟩
          have HII := Aside0.mk hii
          have HKB := Aside0.mk hkb
          have bn1 : (ii != ii) = false := bne_self_eq_false _
          have bn2 : (kb != kb) = false := bne_self_eq_false _
          clear hii hkb
          go_upto_region 10 with (fail)
          have hxs := HXS.out
          go_upto_region 11 with (go_at_call 21; refine (look_p gt gm o0 o1 o2 o3 o4 o5 w ks s key _ HT.out HC.out HKZ.out).mono ?_; rintro e w5 ⟨rfl, hb⟩; rw [HII.out, HKB.out]; have n1_ := Aside0.mk (HT.out.below hb); have n2_ := Aside0.mk (HQ.out.below hb); clear HT HQ hb hxs HXS; have HT := n1_; have HQ := n2_; clear n1_ n2_; have HXS := Aside0.mk ((HT.out.b.cell (World.block_lt_of_cell? w _ HX0.out)).trans HX0.out))
          have hxs := HXS.out
          go_upto_region 12 with (go_at_call 22; refine (Rt.look_ k gr o0 o1 o2 o3 o4 o5 w l A3 c3 s _ _ _ HQ.out (by have := HZ.out; have := HL.out; omega) HF.out).mono ?_; rintro e w6 ⟨rfl, hb⟩; rw [HII.out, HKB.out]; have n1_ := Aside0.mk (HT.out.below hb); have n2_ := Aside0.mk (HQ.out.below hb); clear HT HQ hb hxs HXS; have HT := n1_; have HQ := n2_; clear n1_ n2_)
          go_upto_region 16 with (fail)
          obtain ⟨A4, c4, hv⟩ := Kd.R_slice HQ.out.r
          rw [hv] at HQ
          clear hv
          have n1_ := Aside0.mk (HT.out.below ((Below.refl w6.heap.size w6).drew))
          have n2_ := Aside0.mk (HQ.out.below ((Below.refl w6.heap.size w6).drew))
          clear HT HQ
          have HT := n1_
          have HQ := n2_
          clear n1_ n2_
          have hbn : ((l.length : Int) != (l.length : Int)) = false := bne_self_eq_false _
          refine start_ (n := 8) (S := fun w' => w'.cell? ⟨gr, 6, none⟩ = some (.slice A4 l.length c4)) (ds := []) #[false, false, false, false, false, false, false, false] (by kernel_rfl) rfl rfl ((blk_cell HQ.out.t 6).trans rfl) (fun hHeld => ?_)
          refine with_tabW tabL16 bitsL16 (fun HT_ HW_ => ?_)
          generalize w6.drew = w9 at HT HQ hHeld ⊢
          refine pure_ (i := 0) (N := some 84) (v := ?_) (a' := ?_) #[true, false, false, false, false, false, false, false] rfl rfl (any_of HT_.out (by kernel_rfl)) (fun _ _ _ h => h) (Or.inl ⟨by rfl, ?_⟩) ?_ ?_
          rotate_left
          · intro w'
            go_simp
            with_reducible rfl
          rotate_left
          · simp only [Act.put, List.setIfInBounds_toArray, List.set_cons_zero, List.set_cons_succ, i64_w, i32_w]
            rfl
          refine pure_ (i := 2) (N := some 86) (v := ?_) (a' := ?_) #[true, false, true, false, false, false, false, false] rfl rfl (any_of HT_.out (by kernel_rfl)) (fun _ _ _ h => h) (Or.inl ⟨by rfl, ?_⟩) ?_ ?_
          rotate_left
          · intro w'
            go_simp
            with_reducible rfl
          rotate_left
          · simp only [Act.put, List.setIfInBounds_toArray, List.set_cons_zero, List.set_cons_succ, i64_w, i32_w]
            rfl
          refine pure_ (i := 3) (N := some 87) (v := ?_) (a' := ?_) #[true, false, true, true, false, false, false, false] rfl rfl (any_of HT_.out (by kernel_rfl)) (fun _ _ _ h => h) (Or.inl ⟨by rfl, ?_⟩) ?_ ?_
          rotate_left
          · intro w'
            go_simp
            with_reducible rfl
          rotate_left
          · simp only [Act.put, List.setIfInBounds_toArray, List.set_cons_zero, List.set_cons_succ, i64_w, i32_w]
            rfl
          refine pure_ (i := 4) (N := some 88) (v := ?_) (a' := ?_) #[true, false, true, true, true, false, false, false] rfl rfl (any_of HT_.out (by kernel_rfl)) (fun _ _ _ h => h) (Or.inl ⟨by rfl, ?_⟩) ?_ ?_
          rotate_left
          · intro w'
            go_simp
            with_reducible rfl
          rotate_left
          · simp only [Act.put, List.setIfInBounds_toArray, List.set_cons_zero, List.set_cons_succ, i64_w, i32_w]
            rfl
          refine take_ (i := 5) (N := some 89) (v := ?_) (a' := ?_) #[true, false, true, true, true, true, false, false] rfl rfl (take_ofW HT_.out HW_.out (by kernel_rfl)) (fun _ _ _ h => h) (Or.inl ⟨by rfl, ?_⟩) hHeld ?_ ?_
          rotate_left
          · rintro w' s0
            go_simp
            with_reducible rfl
          rotate_left
          · simp only [Act.put, List.setIfInBounds_toArray, List.set_cons_zero, List.set_cons_succ, i64_w, i32_w]
            rfl
          refine pure_ (i := 6) (N := some 90) (v := ?_) (a' := ?_) #[true, false, true, true, true, true, true, false] rfl rfl (any_of HT_.out (by kernel_rfl)) (fun _ _ _ h => h) (Or.inl ⟨by rfl, ?_⟩) ?_ ?_
          rotate_left
          · intro w'
            go_simp
            with_reducible rfl
          rotate_left
          · simp only [Act.put, List.setIfInBounds_toArray, List.set_cons_zero, List.set_cons_succ, i64_w, i32_w]
            rfl
          refine one_ (i := 1) (N := some 85) #[true, true, true, true, true, true, true, false] rfl rfl (one_of HT_.out (by kernel_rfl)) (by decide) (fun K hK => ?_)
          refine goes_ Tryd.func20 (by kernel_rfl) rfl #[.pointer (some ⟨gt, 0, none⟩)] (by rfl) rfl rfl (by (try simp only [List.map_toArray, List.map_cons, List.map_nil]); first | done | rfl) ?_
          refine (It.size_ gt gm o0 o1 o2 o3 o4 o5 w ks w9 HT.out).mono ?_
          rintro e' w10 ⟨rfl, rfl⟩
          refine ⟨_, rfl, ?_⟩
          rw [HLM.out]
          refine hK.out _ _ hHeld (fun hHeld => ?_)
          clear hK K
          refine norm_ (a' := ?_) ?_ ?_
          rotate_left
          · show Act.put _ (some 85) _ = _
            simp only [Act.put, List.setIfInBounds_toArray, List.set_cons_zero, List.set_cons_succ, i64_w, i32_w]
            rfl
          refine pure_ (i := 7) (N := some 91) (v := ?_) (a' := ?_) #[true, true, true, true, true, true, true, true] rfl rfl (any_of HT_.out (by kernel_rfl)) (fun _ _ _ h => h) (Or.inl ⟨by rfl, ?_⟩) ?_ ?_
          rotate_left
          · intro w'
            go_simp
            with_reducible rfl
          rotate_left
          · simp only [Act.put, List.setIfInBounds_toArray, List.set_cons_zero, List.set_cons_succ, i64_w, i32_w]
            rfl
          refine done_ (done_of HT_.out (by kernel_rfl)) ?_
          clear hHeld
          clear HT_ HW_
          go_wp2
          go_roundg q1
          case measure => omega
          case rel => exact ⟨zn + 1, l, ks, _, by have h1 := HZI.out; have h2 := HW.out; first | (rw [h2]; congr 1; omega) | (congr 1; omega), ⟨by have := HZ.out; omega, by have := HLM.out; omega, by have := HZ.out; have := HLE.out; omega⟩, HG2, HT, HQ⟩
        | false =>
          replace hcase := hcase.elim (fun h => by rw [hfl] at h; cases h.1) (fun h => h.2)
          clear hfl
          obtain ⟨l2, hcl, hl2, hg2⟩ := hcase
          have HF := Aside0.mk hcl
          have HG2 := Aside0.mk hg2
          have HL2 := Aside0.mk hl2
          have hle := It.ad_len ks key
          obtain ⟨ks2, hks2⟩ : ∃ ks2, It.ad ks key = ks2 := ⟨_, rfl⟩
          obtain ⟨ii, hii⟩ : ∃ ii : Int, (It.ix ks2 key : Int) = ii := ⟨_, rfl⟩
          rw [hks2] at hle HG2 HL2 HF
          rw [hii] at HF
          have HII := Aside0.mk hii
          have HKS := Aside0.mk hks2
          have HLM := Aside0.mk (show (ks2.length : Int) = (l2.length : Int) by have := HL2.out; omega)
          have HLE := Aside0.mk hle
          have bn1 : (ii != ii) = false := bne_self_eq_false _
          clear hcl hg2 hl2 hle hks2 hii
          go_upto_region 14 with (fail)
          have n1_ := Aside0.mk (HT.out.below ((Below.refl wr.heap.size wr).drew))
          have n2_ := Aside0.mk (HQ.out.below ((Below.refl wr.heap.size wr).drew))
          clear HT HQ HXS
          have HT := n1_
          have HQ := n2_
          clear n1_ n2_
          refine start_ (n := 13) (S := fun w' => w'.cell? (ad0.add z.toNat) = some (.string s)) (ds := []) #[false, false, false, false, false, false, false, false, false, false, false, false, false] (by kernel_rfl) rfl rfl ((HT.out.b.cell (World.block_lt_of_cell? w _ HX0.out)).trans HX0.out) (fun hHeld => ?_)
          refine with_tabW tabL14 bitsL14 (fun HT_ HW_ => ?_)
          generalize wr.drew = w5 at HT HQ hHeld ⊢
          refine pure_ (i := 0) (N := some 71) (v := ?_) (a' := ?_) #[true, false, false, false, false, false, false, false, false, false, false, false, false] rfl rfl (any_of HT_.out (by kernel_rfl)) (fun _ _ _ h => h) (Or.inl ⟨by rfl, ?_⟩) ?_ ?_
          rotate_left
          · intro w'
            go_simp
            with_reducible rfl
          rotate_left
          · simp only [Act.put, List.setIfInBounds_toArray, List.set_cons_zero, List.set_cons_succ, i64_w, i32_w]
            rfl
          refine pure_ (i := 1) (N := some 72) (v := ?_) (a' := ?_) #[true, true, false, false, false, false, false, false, false, false, false, false, false] rfl rfl (any_of HT_.out (by kernel_rfl)) (fun _ _ _ h => h) (Or.inl ⟨by rfl, ?_⟩) ?_ ?_
          rotate_left
          · intro w'
            go_simp
            with_reducible rfl
          rotate_left
          · simp only [Act.put, List.setIfInBounds_toArray, List.set_cons_zero, List.set_cons_succ, i64_w, i32_w]
            rfl
          refine pure_ (i := 2) (N := some 73) (v := ?_) (a' := ?_) #[true, true, true, false, false, false, false, false, false, false, false, false, false] rfl rfl (any_of HT_.out (by kernel_rfl)) (fun _ _ _ h => h) (Or.inl ⟨by rfl, ?_⟩) ?_ ?_
          rotate_left
          · intro w'
            go_simp
            with_reducible rfl
          rotate_left
          · simp only [Act.put, List.setIfInBounds_toArray, List.set_cons_zero, List.set_cons_succ, i64_w, i32_w]
            rfl
          refine pure_ (i := 3) (N := some 74) (v := ?_) (a' := ?_) #[true, true, true, true, false, false, false, false, false, false, false, false, false] rfl rfl (any_of HT_.out (by kernel_rfl)) (fun _ _ _ h => h) (Or.inl ⟨by rfl, ?_⟩) ?_ ?_
          rotate_left
          · intro w'
            go_simp
            with_reducible rfl
          rotate_left
          · simp only [Act.put, List.setIfInBounds_toArray, List.set_cons_zero, List.set_cons_succ, i64_w, i32_w]
            rfl
          refine take_ (i := 4) (N := some 75) (v := ?_) (a' := ?_) #[true, true, true, true, true, false, false, false, false, false, false, false, false] rfl rfl (take_ofW HT_.out HW_.out (by kernel_rfl)) (fun _ _ _ h => h) (Or.inl ⟨by rfl, ?_⟩) hHeld ?_ ?_
          rotate_left
          · rintro w' s0
            go_simp
            with_reducible rfl
          rotate_left
          · simp only [Act.put, List.setIfInBounds_toArray, List.set_cons_zero, List.set_cons_succ, i64_w, i32_w]
            rfl
          refine pure_ (i := 6) (N := some 77) (v := ?_) (a' := ?_) #[true, true, true, true, true, false, true, false, false, false, false, false, false] rfl rfl (any_of HT_.out (by kernel_rfl)) (fun _ _ _ h => h) (Or.inl ⟨by rfl, ?_⟩) ?_ ?_
          rotate_left
          · intro w'
            go_simp
            with_reducible rfl
          rotate_left
          · simp only [Act.put, List.setIfInBounds_toArray, List.set_cons_zero, List.set_cons_succ, i64_w, i32_w]
            rfl
          refine pure_ (i := 7) (N := some 78) (v := ?_) (a' := ?_) #[true, true, true, true, true, false, true, true, false, false, false, false, false] rfl rfl (any_of HT_.out (by kernel_rfl)) (fun _ _ _ h => h) (Or.inl ⟨by rfl, ?_⟩) ?_ ?_
          rotate_left
          · intro w'
            go_simp
            with_reducible rfl
          rotate_left
          · simp only [Act.put, List.setIfInBounds_toArray, List.set_cons_zero, List.set_cons_succ, i64_w, i32_w]
            rfl
          refine pure_ (i := 8) (N := some 79) (v := ?_) (a' := ?_) #[true, true, true, true, true, false, true, true, true, false, false, false, false] rfl rfl (any_of HT_.out (by kernel_rfl)) (fun _ _ _ h => h) (Or.inl ⟨by rfl, ?_⟩) ?_ ?_
          rotate_left
          · intro w'
            go_simp
            with_reducible rfl
          rotate_left
          · simp only [Act.put, List.setIfInBounds_toArray, List.set_cons_zero, List.set_cons_succ, i64_w, i32_w]
            rfl
          refine pure_ (i := 9) (N := some 80) (v := ?_) (a' := ?_) #[true, true, true, true, true, false, true, true, true, true, false, false, false] rfl rfl (any_of HT_.out (by kernel_rfl)) (fun _ _ _ h => h) (Or.inl ⟨by rfl, ?_⟩) ?_ ?_
          rotate_left
          · intro w'
            go_simp
            with_reducible rfl
          rotate_left
          · simp only [Act.put, List.setIfInBounds_toArray, List.set_cons_zero, List.set_cons_succ, i64_w, i32_w]
            rfl
          refine take_ (i := 10) (N := some 81) (v := ?_) (a' := ?_) #[true, true, true, true, true, false, true, true, true, true, true, false, false] rfl rfl (take_ofW HT_.out HW_.out (by kernel_rfl)) (fun _ _ _ h => h) (Or.inl ⟨by rfl, ?_⟩) hHeld ?_ ?_
          rotate_left
          · rintro w' s0
            go_simp
            with_reducible rfl
          rotate_left
          · simp only [Act.put, List.setIfInBounds_toArray, List.set_cons_zero, List.set_cons_succ, i64_w, i32_w]
            rfl
          refine one_ (i := 5) (N := some 76) #[true, true, true, true, true, true, true, true, true, true, true, false, false] rfl rfl (one_of HT_.out (by kernel_rfl)) (by decide) (fun K hK => ?_)
          refine goes_ Tryd.func23 (by kernel_rfl) rfl #[.pointer (some ⟨gt, 0, none⟩), .string s] (by rfl) rfl rfl (by (try simp only [List.map_toArray, List.map_cons, List.map_nil]); first | done | rfl) ?_
          refine (It.class_ gt gm o0 o1 o2 o3 o4 o5 w ks s key w5 HT.out HC.out HKZ.out (by have := HZ.out; have := HL.out; omega)).mono ?_
          rintro e' w6 ⟨rfl, ht, w7, hb7, hg7⟩
          refine ⟨_, rfl, ?_⟩
          rw [HKS.out] at ht ⊢
          rw [HII.out]
          have n1_ := Aside0.mk ht
          have n2_ := Aside0.mk (tq_over HT.out HQ.out ht hb7 hg7)
          clear HT HQ ht hb7 hg7 hHeld
          have HT := n1_
          have HQ := n2_
          clear n1_ n2_
          refine hK.out _ _ ((HT.out.b.cell (World.block_lt_of_cell? w _ HX0.out)).trans HX0.out) (fun hHeld => ?_)
          clear hK K
          refine norm_ (a' := ?_) ?_ ?_
          rotate_left
          · show Act.put _ (some 76) _ = _
            simp only [Act.put, List.setIfInBounds_toArray, List.set_cons_zero, List.set_cons_succ, i64_w, i32_w]
            rfl
          refine one_ (i := 11) (N := some 82) #[true, true, true, true, true, true, true, true, true, true, true, true, false] rfl rfl (one_of HT_.out (by kernel_rfl)) (by decide) (fun K hK => ?_)
          refine goes_ Tryd.func24 (by kernel_rfl) rfl #[.pointer (some ⟨gr, 0, none⟩), .string s] (by rfl) rfl rfl (by (try simp only [List.map_toArray, List.map_cons, List.map_nil]); first | done | rfl) ?_
          refine (classm_ k gr o0 o1 o2 o3 o4 o5 w l _ s ii l2 w6 HQ.out (by have := HZ.out; have := HL.out; omega) HF.out).mono ?_
          rintro e' w8 ⟨rfl, ⟨v8, hq8⟩, hf8⟩
          refine ⟨_, rfl, ?_⟩
          have n1_ := Aside0.mk (tb_over HT.out hq8 hf8)
          have n2_ := Aside0.mk hq8
          clear HT HQ hq8 hf8 hHeld
          have HT := n1_
          have HQ := n2_
          clear n1_ n2_
          refine hK.out _ _ ((HT.out.b.cell (World.block_lt_of_cell? w _ HX0.out)).trans HX0.out) (fun hHeld => ?_)
          clear hK K
          refine norm_ (a' := ?_) ?_ ?_
          rotate_left
          · show Act.put _ (some 82) _ = _
            simp only [Act.put, List.setIfInBounds_toArray, List.set_cons_zero, List.set_cons_succ, i64_w, i32_w]
            rfl
          refine pure_ (i := 12) (N := some 83) (v := ?_) (a' := ?_) #[true, true, true, true, true, true, true, true, true, true, true, true, true] rfl rfl (any_of HT_.out (by kernel_rfl)) (fun _ _ _ h => h) (Or.inl ⟨by rfl, ?_⟩) ?_ ?_
          rotate_left
          · intro w'
            go_simp
            with_reducible rfl
          rotate_left
          · simp only [Act.put, List.setIfInBounds_toArray, List.set_cons_zero, List.set_cons_succ, i64_w, i32_w]
            rfl
          refine done_ (done_of HT_.out (by kernel_rfl)) ?_
          clear hHeld
          clear HT_ HW_
          go_upto_region 16 with (fail)
          obtain ⟨A4, c4, hv⟩ := Kd.R_slice HQ.out.r
          rw [hv] at HQ
          clear hv
          have n1_ := Aside0.mk (HT.out.below ((Below.refl w8.heap.size w8).drew))
          have n2_ := Aside0.mk (HQ.out.below ((Below.refl w8.heap.size w8).drew))
          clear HT HQ
          have HT := n1_
          have HQ := n2_
          clear n1_ n2_
          have hbn : ((l2.length : Int) != (l2.length : Int)) = false := bne_self_eq_false _
          refine start_ (n := 8) (S := fun w' => w'.cell? ⟨gr, 6, none⟩ = some (.slice A4 l2.length c4)) (ds := []) #[false, false, false, false, false, false, false, false] (by kernel_rfl) rfl rfl ((blk_cell HQ.out.t 6).trans rfl) (fun hHeld => ?_)
          refine with_tabW tabL16 bitsL16 (fun HT_ HW_ => ?_)
          generalize w8.drew = w9 at HT HQ hHeld ⊢
          refine pure_ (i := 0) (N := some 84) (v := ?_) (a' := ?_) #[true, false, false, false, false, false, false, false] rfl rfl (any_of HT_.out (by kernel_rfl)) (fun _ _ _ h => h) (Or.inl ⟨by rfl, ?_⟩) ?_ ?_
          rotate_left
          · intro w'
            go_simp
            with_reducible rfl
          rotate_left
          · simp only [Act.put, List.setIfInBounds_toArray, List.set_cons_zero, List.set_cons_succ, i64_w, i32_w]
            rfl
          refine pure_ (i := 2) (N := some 86) (v := ?_) (a' := ?_) #[true, false, true, false, false, false, false, false] rfl rfl (any_of HT_.out (by kernel_rfl)) (fun _ _ _ h => h) (Or.inl ⟨by rfl, ?_⟩) ?_ ?_
          rotate_left
          · intro w'
            go_simp
            with_reducible rfl
          rotate_left
          · simp only [Act.put, List.setIfInBounds_toArray, List.set_cons_zero, List.set_cons_succ, i64_w, i32_w]
            rfl
          refine pure_ (i := 3) (N := some 87) (v := ?_) (a' := ?_) #[true, false, true, true, false, false, false, false] rfl rfl (any_of HT_.out (by kernel_rfl)) (fun _ _ _ h => h) (Or.inl ⟨by rfl, ?_⟩) ?_ ?_
          rotate_left
          · intro w'
            go_simp
            with_reducible rfl
          rotate_left
          · simp only [Act.put, List.setIfInBounds_toArray, List.set_cons_zero, List.set_cons_succ, i64_w, i32_w]
            rfl
          refine pure_ (i := 4) (N := some 88) (v := ?_) (a' := ?_) #[true, false, true, true, true, false, false, false] rfl rfl (any_of HT_.out (by kernel_rfl)) (fun _ _ _ h => h) (Or.inl ⟨by rfl, ?_⟩) ?_ ?_
          rotate_left
          · intro w'
            go_simp
            with_reducible rfl
          rotate_left
          · simp only [Act.put, List.setIfInBounds_toArray, List.set_cons_zero, List.set_cons_succ, i64_w, i32_w]
            rfl
          refine take_ (i := 5) (N := some 89) (v := ?_) (a' := ?_) #[true, false, true, true, true, true, false, false] rfl rfl (take_ofW HT_.out HW_.out (by kernel_rfl)) (fun _ _ _ h => h) (Or.inl ⟨by rfl, ?_⟩) hHeld ?_ ?_
          rotate_left
          · rintro w' s0
            go_simp
            with_reducible rfl
          rotate_left
          · simp only [Act.put, List.setIfInBounds_toArray, List.set_cons_zero, List.set_cons_succ, i64_w, i32_w]
            rfl
          refine pure_ (i := 6) (N := some 90) (v := ?_) (a' := ?_) #[true, false, true, true, true, true, true, false] rfl rfl (any_of HT_.out (by kernel_rfl)) (fun _ _ _ h => h) (Or.inl ⟨by rfl, ?_⟩) ?_ ?_
          rotate_left
          · intro w'
            go_simp
            with_reducible rfl
          rotate_left
          · simp only [Act.put, List.setIfInBounds_toArray, List.set_cons_zero, List.set_cons_succ, i64_w, i32_w]
            rfl
          refine one_ (i := 1) (N := some 85) #[true, true, true, true, true, true, true, false] rfl rfl (one_of HT_.out (by kernel_rfl)) (by decide) (fun K hK => ?_)
          refine goes_ Tryd.func20 (by kernel_rfl) rfl #[.pointer (some ⟨gt, 0, none⟩)] (by rfl) rfl rfl (by (try simp only [List.map_toArray, List.map_cons, List.map_nil]); first | done | rfl) ?_
          refine (It.size_ gt gm o0 o1 o2 o3 o4 o5 w ks2 w9 HT.out).mono ?_
          rintro e' w10 ⟨rfl, rfl⟩
          refine ⟨_, rfl, ?_⟩
          rw [HLM.out]
          refine hK.out _ _ hHeld (fun hHeld => ?_)
          clear hK K
          refine norm_ (a' := ?_) ?_ ?_
          rotate_left
          · show Act.put _ (some 85) _ = _
            simp only [Act.put, List.setIfInBounds_toArray, List.set_cons_zero, List.set_cons_succ, i64_w, i32_w]
            rfl
          refine pure_ (i := 7) (N := some 91) (v := ?_) (a' := ?_) #[true, true, true, true, true, true, true, true] rfl rfl (any_of HT_.out (by kernel_rfl)) (fun _ _ _ h => h) (Or.inl ⟨by rfl, ?_⟩) ?_ ?_
          rotate_left
          · intro w'
            go_simp
            with_reducible rfl
          rotate_left
          · simp only [Act.put, List.setIfInBounds_toArray, List.set_cons_zero, List.set_cons_succ, i64_w, i32_w]
            rfl
          refine done_ (done_of HT_.out (by kernel_rfl)) ?_
          clear hHeld
          clear HT_ HW_
          go_wp2
          go_roundg q1
          case measure => omega
          case rel => exact ⟨zn + 1, l2, ks2, _, by have h1 := HZI.out; have h2 := HW.out; first | (rw [h2]; congr 1; omega) | (congr 1; omega), ⟨by have := HZ.out; omega, by have := HLM.out; omega, by have := HZ.out; have := HLE.out; omega⟩, HG2, HT, HQ⟩
      · have hfl : (decide (zn < l1.length) && l1.getD zn false) = false := by
          rw [decide_eq_false (show ¬ zn < l1.length by have := HZI.out; omega), Bool.false_and]
        have p3 := eq_false hq
        have p4 := decide_eq_false hq
        replace hcase := hcase.elim (fun h => by rw [hfl] at h; cases h.1) (fun h => h.2)
        clear hfl hq
        obtain ⟨l2, hcl, hl2, hg2⟩ := hcase
        have HF := Aside0.mk hcl
        have HG2 := Aside0.mk hg2
        have HL2 := Aside0.mk hl2
        have hle := It.ad_len ks key
        obtain ⟨ks2, hks2⟩ : ∃ ks2, It.ad ks key = ks2 := ⟨_, rfl⟩
        obtain ⟨ii, hii⟩ : ∃ ii : Int, (It.ix ks2 key : Int) = ii := ⟨_, rfl⟩
        rw [hks2] at hle HG2 HL2 HF
        rw [hii] at HF
        have HII := Aside0.mk hii
        have HKS := Aside0.mk hks2
        have HLM := Aside0.mk (show (ks2.length : Int) = (l2.length : Int) by have := HL2.out; omega)
        have HLE := Aside0.mk hle
        have bn1 : (ii != ii) = false := bne_self_eq_false _
        clear hcl hg2 hl2 hle hks2 hii
        go_upto_region 14 with (fail)
        have n1_ := Aside0.mk (HT.out.below ((Below.refl wr.heap.size wr).drew))
        have n2_ := Aside0.mk (HQ.out.below ((Below.refl wr.heap.size wr).drew))
        clear HT HQ HXS
        have HT := n1_
        have HQ := n2_
        clear n1_ n2_
        refine start_ (n := 13) (S := fun w' => w'.cell? (ad0.add z.toNat) = some (.string s)) (ds := []) #[false, false, false, false, false, false, false, false, false, false, false, false, false] (by kernel_rfl) rfl rfl ((HT.out.b.cell (World.block_lt_of_cell? w _ HX0.out)).trans HX0.out) (fun hHeld => ?_)
        refine with_tabW tabL14 bitsL14 (fun HT_ HW_ => ?_)
        generalize wr.drew = w5 at HT HQ hHeld ⊢
        refine pure_ (i := 0) (N := some 71) (v := ?_) (a' := ?_) #[true, false, false, false, false, false, false, false, false, false, false, false, false] rfl rfl (any_of HT_.out (by kernel_rfl)) (fun _ _ _ h => h) (Or.inl ⟨by rfl, ?_⟩) ?_ ?_
        rotate_left
        · intro w'
          go_simp
          with_reducible rfl
        rotate_left
        · simp only [Act.put, List.setIfInBounds_toArray, List.set_cons_zero, List.set_cons_succ, i64_w, i32_w]
          rfl
        refine pure_ (i := 1) (N := some 72) (v := ?_) (a' := ?_) #[true, true, false, false, false, false, false, false, false, false, false, false, false] rfl rfl (any_of HT_.out (by kernel_rfl)) (fun _ _ _ h => h) (Or.inl ⟨by rfl, ?_⟩) ?_ ?_
        rotate_left
        · intro w'
          go_simp
          with_reducible rfl
        rotate_left
        · simp only [Act.put, List.setIfInBounds_toArray, List.set_cons_zero, List.set_cons_succ, i64_w, i32_w]
          rfl
        refine pure_ (i := 2) (N := some 73) (v := ?_) (a' := ?_) #[true, true, true, false, false, false, false, false, false, false, false, false, false] rfl rfl (any_of HT_.out (by kernel_rfl)) (fun _ _ _ h => h) (Or.inl ⟨by rfl, ?_⟩) ?_ ?_
        rotate_left
        · intro w'
          go_simp
          with_reducible rfl
        rotate_left
        · simp only [Act.put, List.setIfInBounds_toArray, List.set_cons_zero, List.set_cons_succ, i64_w, i32_w]
          rfl
        refine pure_ (i := 3) (N := some 74) (v := ?_) (a' := ?_) #[true, true, true, true, false, false, false, false, false, false, false, false, false] rfl rfl (any_of HT_.out (by kernel_rfl)) (fun _ _ _ h => h) (Or.inl ⟨by rfl, ?_⟩) ?_ ?_
        rotate_left
        · intro w'
          go_simp
          with_reducible rfl
        rotate_left
        · simp only [Act.put, List.setIfInBounds_toArray, List.set_cons_zero, List.set_cons_succ, i64_w, i32_w]
          rfl
        refine take_ (i := 4) (N := some 75) (v := ?_) (a' := ?_) #[true, true, true, true, true, false, false, false, false, false, false, false, false] rfl rfl (take_ofW HT_.out HW_.out (by kernel_rfl)) (fun _ _ _ h => h) (Or.inl ⟨by rfl, ?_⟩) hHeld ?_ ?_
        rotate_left
        · rintro w' s0
          go_simp
          with_reducible rfl
        rotate_left
        · simp only [Act.put, List.setIfInBounds_toArray, List.set_cons_zero, List.set_cons_succ, i64_w, i32_w]
          rfl
        refine pure_ (i := 6) (N := some 77) (v := ?_) (a' := ?_) #[true, true, true, true, true, false, true, false, false, false, false, false, false] rfl rfl (any_of HT_.out (by kernel_rfl)) (fun _ _ _ h => h) (Or.inl ⟨by rfl, ?_⟩) ?_ ?_
        rotate_left
        · intro w'
          go_simp
          with_reducible rfl
        rotate_left
        · simp only [Act.put, List.setIfInBounds_toArray, List.set_cons_zero, List.set_cons_succ, i64_w, i32_w]
          rfl
        refine pure_ (i := 7) (N := some 78) (v := ?_) (a' := ?_) #[true, true, true, true, true, false, true, true, false, false, false, false, false] rfl rfl (any_of HT_.out (by kernel_rfl)) (fun _ _ _ h => h) (Or.inl ⟨by rfl, ?_⟩) ?_ ?_
        rotate_left
        · intro w'
          go_simp
          with_reducible rfl
        rotate_left
        · simp only [Act.put, List.setIfInBounds_toArray, List.set_cons_zero, List.set_cons_succ, i64_w, i32_w]
          rfl
        refine pure_ (i := 8) (N := some 79) (v := ?_) (a' := ?_) #[true, true, true, true, true, false, true, true, true, false, false, false, false] rfl rfl (any_of HT_.out (by kernel_rfl)) (fun _ _ _ h => h) (Or.inl ⟨by rfl, ?_⟩) ?_ ?_
        rotate_left
        · intro w'
          go_simp
          with_reducible rfl
        rotate_left
        · simp only [Act.put, List.setIfInBounds_toArray, List.set_cons_zero, List.set_cons_succ, i64_w, i32_w]
          rfl
        refine pure_ (i := 9) (N := some 80) (v := ?_) (a' := ?_) #[true, true, true, true, true, false, true, true, true, true, false, false, false] rfl rfl (any_of HT_.out (by kernel_rfl)) (fun _ _ _ h => h) (Or.inl ⟨by rfl, ?_⟩) ?_ ?_
        rotate_left
        · intro w'
          go_simp
          with_reducible rfl
        rotate_left
        · simp only [Act.put, List.setIfInBounds_toArray, List.set_cons_zero, List.set_cons_succ, i64_w, i32_w]
          rfl
        refine take_ (i := 10) (N := some 81) (v := ?_) (a' := ?_) #[true, true, true, true, true, false, true, true, true, true, true, false, false] rfl rfl (take_ofW HT_.out HW_.out (by kernel_rfl)) (fun _ _ _ h => h) (Or.inl ⟨by rfl, ?_⟩) hHeld ?_ ?_
        rotate_left
        · rintro w' s0
          go_simp
          with_reducible rfl
        rotate_left
        · simp only [Act.put, List.setIfInBounds_toArray, List.set_cons_zero, List.set_cons_succ, i64_w, i32_w]
          rfl
        refine one_ (i := 5) (N := some 76) #[true, true, true, true, true, true, true, true, true, true, true, false, false] rfl rfl (one_of HT_.out (by kernel_rfl)) (by decide) (fun K hK => ?_)
        refine goes_ Tryd.func23 (by kernel_rfl) rfl #[.pointer (some ⟨gt, 0, none⟩), .string s] (by rfl) rfl rfl (by (try simp only [List.map_toArray, List.map_cons, List.map_nil]); first | done | rfl) ?_
        refine (It.class_ gt gm o0 o1 o2 o3 o4 o5 w ks s key w5 HT.out HC.out HKZ.out (by have := HZ.out; have := HL.out; omega)).mono ?_
        rintro e' w6 ⟨rfl, ht, w7, hb7, hg7⟩
        refine ⟨_, rfl, ?_⟩
        rw [HKS.out] at ht ⊢
        rw [HII.out]
        have n1_ := Aside0.mk ht
        have n2_ := Aside0.mk (tq_over HT.out HQ.out ht hb7 hg7)
        clear HT HQ ht hb7 hg7 hHeld
        have HT := n1_
        have HQ := n2_
        clear n1_ n2_
        refine hK.out _ _ ((HT.out.b.cell (World.block_lt_of_cell? w _ HX0.out)).trans HX0.out) (fun hHeld => ?_)
        clear hK K
        refine norm_ (a' := ?_) ?_ ?_
        rotate_left
        · show Act.put _ (some 76) _ = _
          simp only [Act.put, List.setIfInBounds_toArray, List.set_cons_zero, List.set_cons_succ, i64_w, i32_w]
          rfl
        refine one_ (i := 11) (N := some 82) #[true, true, true, true, true, true, true, true, true, true, true, true, false] rfl rfl (one_of HT_.out (by kernel_rfl)) (by decide) (fun K hK => ?_)
        refine goes_ Tryd.func24 (by kernel_rfl) rfl #[.pointer (some ⟨gr, 0, none⟩), .string s] (by rfl) rfl rfl (by (try simp only [List.map_toArray, List.map_cons, List.map_nil]); first | done | rfl) ?_
        refine (classm_ k gr o0 o1 o2 o3 o4 o5 w l _ s ii l2 w6 HQ.out (by have := HZ.out; have := HL.out; omega) HF.out).mono ?_
        rintro e' w8 ⟨rfl, ⟨v8, hq8⟩, hf8⟩
        refine ⟨_, rfl, ?_⟩
        have n1_ := Aside0.mk (tb_over HT.out hq8 hf8)
        have n2_ := Aside0.mk hq8
        clear HT HQ hq8 hf8 hHeld
        have HT := n1_
        have HQ := n2_
        clear n1_ n2_
        refine hK.out _ _ ((HT.out.b.cell (World.block_lt_of_cell? w _ HX0.out)).trans HX0.out) (fun hHeld => ?_)
        clear hK K
        refine norm_ (a' := ?_) ?_ ?_
        rotate_left
        · show Act.put _ (some 82) _ = _
          simp only [Act.put, List.setIfInBounds_toArray, List.set_cons_zero, List.set_cons_succ, i64_w, i32_w]
          rfl
        refine pure_ (i := 12) (N := some 83) (v := ?_) (a' := ?_) #[true, true, true, true, true, true, true, true, true, true, true, true, true] rfl rfl (any_of HT_.out (by kernel_rfl)) (fun _ _ _ h => h) (Or.inl ⟨by rfl, ?_⟩) ?_ ?_
        rotate_left
        · intro w'
          go_simp
          with_reducible rfl
        rotate_left
        · simp only [Act.put, List.setIfInBounds_toArray, List.set_cons_zero, List.set_cons_succ, i64_w, i32_w]
          rfl
        refine done_ (done_of HT_.out (by kernel_rfl)) ?_
        clear hHeld
        clear HT_ HW_
        go_upto_region 16 with (fail)
        obtain ⟨A4, c4, hv⟩ := Kd.R_slice HQ.out.r
        rw [hv] at HQ
        clear hv
        have n1_ := Aside0.mk (HT.out.below ((Below.refl w8.heap.size w8).drew))
        have n2_ := Aside0.mk (HQ.out.below ((Below.refl w8.heap.size w8).drew))
        clear HT HQ
        have HT := n1_
        have HQ := n2_
        clear n1_ n2_
        have hbn : ((l2.length : Int) != (l2.length : Int)) = false := bne_self_eq_false _
        refine start_ (n := 8) (S := fun w' => w'.cell? ⟨gr, 6, none⟩ = some (.slice A4 l2.length c4)) (ds := []) #[false, false, false, false, false, false, false, false] (by kernel_rfl) rfl rfl ((blk_cell HQ.out.t 6).trans rfl) (fun hHeld => ?_)
        refine with_tabW tabL16 bitsL16 (fun HT_ HW_ => ?_)
        generalize w8.drew = w9 at HT HQ hHeld ⊢
        refine pure_ (i := 0) (N := some 84) (v := ?_) (a' := ?_) #[true, false, false, false, false, false, false, false] rfl rfl (any_of HT_.out (by kernel_rfl)) (fun _ _ _ h => h) (Or.inl ⟨by rfl, ?_⟩) ?_ ?_
        rotate_left
        · intro w'
          go_simp
          with_reducible rfl
        rotate_left
        · simp only [Act.put, List.setIfInBounds_toArray, List.set_cons_zero, List.set_cons_succ, i64_w, i32_w]
          rfl
        refine pure_ (i := 2) (N := some 86) (v := ?_) (a' := ?_) #[true, false, true, false, false, false, false, false] rfl rfl (any_of HT_.out (by kernel_rfl)) (fun _ _ _ h => h) (Or.inl ⟨by rfl, ?_⟩) ?_ ?_
        rotate_left
        · intro w'
          go_simp
          with_reducible rfl
        rotate_left
        · simp only [Act.put, List.setIfInBounds_toArray, List.set_cons_zero, List.set_cons_succ, i64_w, i32_w]
          rfl
        refine pure_ (i := 3) (N := some 87) (v := ?_) (a' := ?_) #[true, false, true, true, false, false, false, false] rfl rfl (any_of HT_.out (by kernel_rfl)) (fun _ _ _ h => h) (Or.inl ⟨by rfl, ?_⟩) ?_ ?_
        rotate_left
        · intro w'
          go_simp
          with_reducible rfl
        rotate_left
        · simp only [Act.put, List.setIfInBounds_toArray, List.set_cons_zero, List.set_cons_succ, i64_w, i32_w]
          rfl
        refine pure_ (i := 4) (N := some 88) (v := ?_) (a' := ?_) #[true, false, true, true, true, false, false, false] rfl rfl (any_of HT_.out (by kernel_rfl)) (fun _ _ _ h => h) (Or.inl ⟨by rfl, ?_⟩) ?_ ?_
        rotate_left
        · intro w'
          go_simp
          with_reducible rfl
        rotate_left
        · simp only [Act.put, List.setIfInBounds_toArray, List.set_cons_zero, List.set_cons_succ, i64_w, i32_w]
          rfl
        refine take_ (i := 5) (N := some 89) (v := ?_) (a' := ?_) #[true, false, true, true, true, true, false, false] rfl rfl (take_ofW HT_.out HW_.out (by kernel_rfl)) (fun _ _ _ h => h) (Or.inl ⟨by rfl, ?_⟩) hHeld ?_ ?_
        rotate_left
        · rintro w' s0
          go_simp
          with_reducible rfl
        rotate_left
        · simp only [Act.put, List.setIfInBounds_toArray, List.set_cons_zero, List.set_cons_succ, i64_w, i32_w]
          rfl
        refine pure_ (i := 6) (N := some 90) (v := ?_) (a' := ?_) #[true, false, true, true, true, true, true, false] rfl rfl (any_of HT_.out (by kernel_rfl)) (fun _ _ _ h => h) (Or.inl ⟨by rfl, ?_⟩) ?_ ?_
        rotate_left
        · intro w'
          go_simp
          with_reducible rfl
        rotate_left
        · simp only [Act.put, List.setIfInBounds_toArray, List.set_cons_zero, List.set_cons_succ, i64_w, i32_w]
          rfl
        refine one_ (i := 1) (N := some 85) #[true, true, true, true, true, true, true, false] rfl rfl (one_of HT_.out (by kernel_rfl)) (by decide) (fun K hK => ?_)
        refine goes_ Tryd.func20 (by kernel_rfl) rfl #[.pointer (some ⟨gt, 0, none⟩)] (by rfl) rfl rfl (by (try simp only [List.map_toArray, List.map_cons, List.map_nil]); first | done | rfl) ?_
        refine (It.size_ gt gm o0 o1 o2 o3 o4 o5 w ks2 w9 HT.out).mono ?_
        rintro e' w10 ⟨rfl, rfl⟩
        refine ⟨_, rfl, ?_⟩
        rw [HLM.out]
        refine hK.out _ _ hHeld (fun hHeld => ?_)
        clear hK K
        refine norm_ (a' := ?_) ?_ ?_
        rotate_left
        · show Act.put _ (some 85) _ = _
          simp only [Act.put, List.setIfInBounds_toArray, List.set_cons_zero, List.set_cons_succ, i64_w, i32_w]
          rfl
        refine pure_ (i := 7) (N := some 91) (v := ?_) (a' := ?_) #[true, true, true, true, true, true, true, true] rfl rfl (any_of HT_.out (by kernel_rfl)) (fun _ _ _ h => h) (Or.inl ⟨by rfl, ?_⟩) ?_ ?_
        rotate_left
        · intro w'
          go_simp
          with_reducible rfl
        rotate_left
        · simp only [Act.put, List.setIfInBounds_toArray, List.set_cons_zero, List.set_cons_succ, i64_w, i32_w]
          rfl
        refine done_ (done_of HT_.out (by kernel_rfl)) ?_
        clear hHeld
        clear HT_ HW_
        go_wp2
        go_roundg q1
        case measure => omega
        case rel => exact ⟨zn + 1, l2, ks2, _, by have h1 := HZI.out; have h2 := HW.out; first | (rw [h2]; congr 1; omega) | (congr 1; omega), ⟨by have := HZ.out; omega, by have := HLM.out; omega, by have := HZ.out; have := HLE.out; omega⟩, HG2, HT, HQ⟩
end Go.Proofs.YtglffceopijogaaDoor.X
