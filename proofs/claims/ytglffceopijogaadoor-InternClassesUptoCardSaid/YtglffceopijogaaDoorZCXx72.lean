import Derived.Test.YtglffceopijogaaDoorZCXx0
import Derived.Test.YtglffceopijogaaDoorZCXx59
namespace Go.Proofs.YtglffceopijogaaDoor.X
open Go.RowKit Go.Proofs.YtglffceopijogaaDoorW.PrintWords Go.Proofs.YtglffceopijogaaDoorW.PrintLast Go.Proofs.YtglffceopijogaaDoorW.PrintMore
attribute [local go_sem] max2_int min2_int max_two min_two max_three min_three max_four min_four   -- for this text's walks alone
open Go.Proofs.YtglffceopijogaaDoorW.HandWords
set_option linter.unusedVariables false
set_option linter.unusedSimpArgs false
namespace Rt
def lookr (k : Nat) (o0 o1 o2 o3 o4 o5 : Bool) (line : ByteArray) : List ByteArray → Nat → Option (Int × Bool)
  | [], _ => some (0, false)
  | s :: l, i => (redlineref03_Equal.f k s line o0 o1 o2 o3 o4 o5).bind fun b => if b = true then some ((i : Int), true) else lookr k o0 o1 o2 o3 o4 o5 line l (i + 1)
def cls (k : Nat) (o0 o1 o2 o3 o4 o5 : Bool) (l : List ByteArray) (line : ByteArray) : Option (Int × List ByteArray) := (lookr k o0 o1 o2 o3 o4 o5 line l 0).bind fun t => if t.2 = true then some (t.1, l) else some ((l.length : Int), l ++ [line])
def runr (k : Nat) (o0 o1 o2 o3 o4 o5 : Bool) : List ByteArray → List ByteArray → Option (List Int × List ByteArray)
  | l, [] => some ([], l)
  | l, s :: r => (cls k o0 o1 o2 o3 o4 o5 l s).bind fun t => (runr k o0 o1 o2 o3 o4 o5 t.2 r).bind fun u => some (t.1 :: u.1, u.2)
structure Tq (gr : Nat) (o0 o1 o2 o3 o4 o5 : Bool) (w0 : World) (l : List ByteArray) (v : Value) (W : World) : Prop where
  t : W.heap[gr]? = some (.cells #[.bool o0, .bool o1, .bool o2, .bool o3, .bool o4, .bool o5, v] 36 (0, 0))
  r : Kd.R Kd.string 9 W w0.heap.size (fun _ => True) v l
  b : Below w0.heap.size w0 W
  g : w0.heap.size ≤ gr
section
variable {gr : Nat} {o0 o1 o2 o3 o4 o5 : Bool} {w0 : World} {l : List ByteArray} {v : Value} {W : World}
theorem Tq.below (h : Tq gr o0 o1 o2 o3 o4 o5 w0 l v W) {W' : World} (hb : Below W.heap.size W W') : Tq gr o0 o1 o2 o3 o4 o5 w0 l v W' :=
  ⟨blk_below h.t hb, Kd.R_below h.r hb, h.b.trans (hb.mono h.b.size), h.g⟩
end
def T4r : Bool × List (List Nat × List Nat) := (true, [([], []), ([0], [0]), ([1], [1]), ([2], [2]), ([], []), ([3, 4], [3, 4]), ([5], [5]), ([], []), ([], []), ([8], [8]), ([9], [9]), ([10], [10]), ([6, 7, 11], [6, 7, 11])])
def B4r : List Nat := [0, 1, 3, 7, 0, 31, 63, 0, 0, 256, 768, 1792, 4095]
theorem tab4r : rtab .any (opsOf Tryd.f22 4) = T4r := by kernel_rfl
theorem bits4r : waitsOk T4r.2 B4r = true := by kernel_rfl
set_option maxHeartbeats 8000000 in
set_option maxRecDepth 100000 in
theorem look_ (k gr : Nat) (o0 o1 o2 o3 o4 o5 : Bool) (w0 : World) (l : List ByteArray) (A1 : Option Addr) (c1 : Nat) (line : ByteArray) (r1 : Int) (r2 : Bool) (w : World) (h : Tq gr o0 o1 o2 o3 o4 o5 w0 l (.slice A1 l.length c1) w) (hl : l.length ≤ 100000000) (hf : lookr k o0 o1 o2 o3 o4 o5 line l 0 = some (r1, r2)) :
    Calls Tryd.prog 22 #[.pointer (some ⟨gr, 0, none⟩), .string line] w fun e w' => e = .returned (.tuple #[.int .i64 r1, .bool r2]) ∧ Below w.heap.size w w' := by
  have HT := Aside0.mk h
  have HL := Aside0.mk hl
  have HF := Aside0.mk hf
  have HB := Aside0.mk (Below.refl w.heap.size w)
  clear h hl hf
  go_enter Tryd.func22, Tryd.ntmps22
  go_wp2
  go_loopg [6] l.length (fun q v6 w' => ∃ z : Nat, v6 = .int .i64 (z : Int) ∧ Aside0 (z + q = l.length) ∧ Aside0 (lookr k o0 o1 o2 o3 o4 o5 line (l.drop z) z = some (r1, r2)) ∧ Aside0 (Tq gr o0 o1 o2 o3 o4 o5 w0 l (.slice A1 l.length c1) w') ∧ Aside0 (Below w.heap.size w w'))
  case atStart => exact ⟨0, rfl, ⟨by omega⟩, HF, HT, HB⟩
  case round =>
    clear HF HT HB
    obtain ⟨zn, rfl, HZ, HF, HT, HB⟩ := hrel
    obtain ⟨z, hz⟩ : ∃ z : Int, (zn : Int) = z := ⟨_, rfl⟩
    rw [hz]
    have hz1 : 0 ≤ z := by omega
    have hzt : z.toNat = zn := by omega
    have c6 := (blk_cell HT.out.t 6).trans (show _ = some (Value.slice A1 l.length c1) from rfl)
    cases gk with
    | zero =>
      have hzl : z = (l.length : Int) := by have := HZ.out; omega
      subst hzl
      have hp : ((l.length : Int) < (l.length : Int)) = False := eq_false (Int.lt_irrefl _)
      have h := HF.out
      rw [List.drop_eq_nil_of_le (by have := HZ.out; omega), lookr] at h
      simp only [Option.some.injEq, Prod.mk.injEq] at h
      obtain ⟨rfl, rfl⟩ := h
      go_wp2
      go_ret2
      exact ⟨rfl, HB.out⟩
    | succ q1 =>
      have hzn : zn < l.length := by have := HZ.out; omega
      have hzl : decide (z < (l.length : Int)) = true := decide_eq_true (by omega)
      have hz3 := of_decide_eq_true hzl
      obtain ⟨ad0, ea0, hx0⟩ := Kd.at_string (Kd.R_reads' HT.out.r).2.2 z hz1 hz3
      cases ea0
      obtain ⟨s, hs⟩ : ∃ s, rdOf ByteArray.empty l z = s := ⟨_, rfl⟩
      rw [hs] at hx0
      have hd : l.drop zn = s :: l.drop (zn + 1) := by
        rw [← hs, List.drop_eq_getElem_cons hzn]
        simp [rdOf, hzt, List.getD_eq_getElem?_getD, hzn]
      have hf := HF.out
      rw [hd, lookr] at hf
      obtain ⟨b, hb, hf⟩ := Option.bind_eq_some_iff.mp hf
      have HE := Aside0.mk hb
      have HF2 := Aside0.mk hf
      have HX := Aside0.mk hx0
      have p1 := eq_true hz1
      have p2 := eq_true hz3
      have hw : wrap64 (z + 1) = z + 1 := by have := HL.out; unfold wrap64; omega
      have HW := Aside0.mk hw
      have HZI := Aside0.mk hz
      clear hb hf hd hs HF hw hz hzt hzn
      go_upto_region 4 with (fail)
      clear c6 hx0
      have n1_ := Aside0.mk (HT.out.below ((Below.refl _ _).drew))
      have n2_ := Aside0.mk (below_drew1 HB.out)
      clear HT HB
      have HT := n1_
      have HB := n2_
      clear n1_ n2_
      refine start_ (n := 13) (S := fun w' => w'.cell? ⟨gr, 0, none⟩ = some (.bool o0) ∧ w'.cell? ⟨gr, 1, none⟩ = some (.bool o1) ∧ w'.cell? ⟨gr, 2, none⟩ = some (.bool o2) ∧ w'.cell? ⟨gr, 3, none⟩ = some (.bool o3) ∧ w'.cell? ⟨gr, 4, none⟩ = some (.bool o4) ∧ w'.cell? ⟨gr, 5, none⟩ = some (.bool o5) ∧ w'.cell? ⟨gr, 6, none⟩ = some (.slice (some ad0) l.length c1) ∧ w'.cell? (ad0.add (z.toNat)) = some (.string s)) (ds := []) #[false, false, false, false, false, false, false, false, false, false, false, false, false] (by kernel_rfl) rfl rfl ⟨(blk_cell HT.out.t 0).trans rfl, (blk_cell HT.out.t 1).trans rfl, (blk_cell HT.out.t 2).trans rfl, (blk_cell HT.out.t 3).trans rfl, (blk_cell HT.out.t 4).trans rfl, (blk_cell HT.out.t 5).trans rfl, (blk_cell HT.out.t 6).trans rfl, HX.out⟩ (fun hHeld => ?_)
      refine with_tabW tab4r bits4r (fun HT_ HW_ => ?_)
      generalize wr.drew = w5 at HT HB hHeld ⊢
      refine pure_ (i := 0) (N := some 16) (v := ?_) (a' := ?_) #[true, false, false, false, false, false, false, false, false, false, false, false, false] rfl rfl (any_of HT_.out (by kernel_rfl)) (fun _ _ _ h => h) (Or.inl ⟨by rfl, ?_⟩) ?_ ?_
      rotate_left
      · intro w'
        go_simp
        with_reducible rfl
      rotate_left
      · simp only [Act.put, List.setIfInBounds_toArray, List.set_cons_zero, List.set_cons_succ, i64_w, i32_w]
        rfl
      refine pure_ (i := 1) (N := some 17) (v := ?_) (a' := ?_) #[true, true, false, false, false, false, false, false, false, false, false, false, false] rfl rfl (any_of HT_.out (by kernel_rfl)) (fun _ _ _ h => h) (Or.inl ⟨by rfl, ?_⟩) ?_ ?_
      rotate_left
      · intro w'
        go_simp
        with_reducible rfl
      rotate_left
      · simp only [Act.put, List.setIfInBounds_toArray, List.set_cons_zero, List.set_cons_succ, i64_w, i32_w]
        rfl
      refine pure_ (i := 2) (N := some 18) (v := ?_) (a' := ?_) #[true, true, true, false, false, false, false, false, false, false, false, false, false] rfl rfl (any_of HT_.out (by kernel_rfl)) (fun _ _ _ h => h) (Or.inl ⟨by rfl, ?_⟩) ?_ ?_
      rotate_left
      · intro w'
        go_simp
        with_reducible rfl
      rotate_left
      · simp only [Act.put, List.setIfInBounds_toArray, List.set_cons_zero, List.set_cons_succ, i64_w, i32_w]
        rfl
      refine take_ (i := 3) (N := some 19) (v := ?_) (a' := ?_) #[true, true, true, true, false, false, false, false, false, false, false, false, false] rfl rfl (take_ofW HT_.out HW_.out (by kernel_rfl)) (fun _ _ _ h => h) (Or.inl ⟨by rfl, ?_⟩) hHeld ?_ ?_
      rotate_left
      · rintro w' ⟨s0, s1, s2, s3, s4, s5, s6, s7⟩
        go_simp
        with_reducible rfl
      rotate_left
      · simp only [Act.put, List.setIfInBounds_toArray, List.set_cons_zero, List.set_cons_succ, i64_w, i32_w]
        rfl
      refine pure_ (i := 4) (N := some 20) (v := ?_) (a' := ?_) #[true, true, true, true, true, false, false, false, false, false, false, false, false] rfl rfl (any_of HT_.out (by kernel_rfl)) (fun _ _ _ h => h) (Or.inl ⟨by rfl, ?_⟩) ?_ ?_
      rotate_left
      · intro w'
        go_simp
        with_reducible rfl
      rotate_left
      · simp only [Act.put, List.setIfInBounds_toArray, List.set_cons_zero, List.set_cons_succ, i64_w, i32_w]
        rfl
      refine pure_ (i := 5) (N := some 21) (v := ?_) (a' := ?_) #[true, true, true, true, true, true, false, false, false, false, false, false, false] rfl rfl (any_of HT_.out (by kernel_rfl)) (fun _ _ _ h => h) (Or.inl ⟨by rfl, ?_⟩) ?_ ?_
      rotate_left
      · intro w'
        go_simp
        with_reducible rfl
      rotate_left
      · simp only [Act.put, List.setIfInBounds_toArray, List.set_cons_zero, List.set_cons_succ, i64_w, i32_w]
        rfl
      refine take_ (i := 6) (N := some 22) (v := ?_) (a' := ?_) #[true, true, true, true, true, true, true, false, false, false, false, false, false] rfl rfl (take_ofW HT_.out HW_.out (by kernel_rfl)) (fun _ _ _ h => h) (Or.inl ⟨by rfl, ?_⟩) hHeld ?_ ?_
      rotate_left
      · rintro w' ⟨s0, s1, s2, s3, s4, s5, s6, s7⟩
        go_simp
        with_reducible rfl
      rotate_left
      · simp only [Act.put, List.setIfInBounds_toArray, List.set_cons_zero, List.set_cons_succ, i64_w, i32_w]
        rfl
      refine pure_ (i := 7) (N := some 23) (v := ?_) (a' := ?_) #[true, true, true, true, true, true, true, true, false, false, false, false, false] rfl rfl (any_of HT_.out (by kernel_rfl)) (fun _ _ _ h => h) (Or.inl ⟨by rfl, ?_⟩) ?_ ?_
      rotate_left
      · intro w'
        go_simp
        with_reducible rfl
      rotate_left
      · simp only [Act.put, List.setIfInBounds_toArray, List.set_cons_zero, List.set_cons_succ, i64_w, i32_w]
        rfl
      refine pure_ (i := 8) (N := some 24) (v := ?_) (a' := ?_) #[true, true, true, true, true, true, true, true, true, false, false, false, false] rfl rfl (any_of HT_.out (by kernel_rfl)) (fun _ _ _ h => h) (Or.inl ⟨by rfl, ?_⟩) ?_ ?_
      rotate_left
      · intro w'
        go_simp
        with_reducible rfl
      rotate_left
      · simp only [Act.put, List.setIfInBounds_toArray, List.set_cons_zero, List.set_cons_succ, i64_w, i32_w]
        rfl
      refine pure_ (i := 9) (N := some 25) (v := ?_) (a' := ?_) #[true, true, true, true, true, true, true, true, true, true, false, false, false] rfl rfl (any_of HT_.out (by kernel_rfl)) (fun _ _ _ h => h) (Or.inl ⟨by rfl, ?_⟩) ?_ ?_
      rotate_left
      · intro w'
        go_simp
        with_reducible rfl
      rotate_left
      · simp only [Act.put, List.setIfInBounds_toArray, List.set_cons_zero, List.set_cons_succ, i64_w, i32_w]
        rfl
      refine pure_ (i := 10) (N := some 26) (v := ?_) (a' := ?_) #[true, true, true, true, true, true, true, true, true, true, true, false, false] rfl rfl (any_of HT_.out (by kernel_rfl)) (fun _ _ _ h => h) (Or.inl ⟨by rfl, ?_⟩) ?_ ?_
      rotate_left
      · intro w'
        go_simp
        with_reducible rfl
      rotate_left
      · simp only [Act.put, List.setIfInBounds_toArray, List.set_cons_zero, List.set_cons_succ, i64_w, i32_w]
        rfl
      refine take_ (i := 11) (N := some 27) (v := ?_) (a' := ?_) #[true, true, true, true, true, true, true, true, true, true, true, true, false] rfl rfl (take_ofW HT_.out HW_.out (by kernel_rfl)) (fun _ _ _ h => h) (Or.inl ⟨by rfl, ?_⟩) hHeld ?_ ?_
      rotate_left
      · rintro w' ⟨s0, s1, s2, s3, s4, s5, s6, s7⟩
        go_simp
        with_reducible rfl
      rotate_left
      · simp only [Act.put, List.setIfInBounds_toArray, List.set_cons_zero, List.set_cons_succ, i64_w, i32_w]
        rfl
      refine one_ (i := 12) (N := some 28) #[true, true, true, true, true, true, true, true, true, true, true, true, true] rfl rfl (one_of HT_.out (by kernel_rfl)) (by decide) (fun K hK => ?_)
      refine goes_ Tryd.func15 (by kernel_rfl) rfl #[.string s, .string line, .agg #[.bool o0, .bool o1, .bool o2, .bool o3, .bool o4, .bool o5]] (by rfl) rfl rfl (by (try simp only [List.map_toArray, List.map_cons, List.map_nil]); first | done | rfl) ?_
      refine (redlineref03_Equal.calls k s line o0 o1 o2 o3 o4 o5 b w5 HE.out).mono ?_
      rintro e' w6 ⟨rfl, hb⟩
      refine ⟨_, rfl, ?_⟩
      have n1_ := Aside0.mk (HT.out.below hb)
      have n2_ := Aside0.mk (below_step HB.out hb)
      have n3_ := Aside0.mk (hb.cell (World.block_lt_of_cell? _ _ hHeld.2.2.2.2.2.2.2))
      have HX2 := Aside0.mk (n3_.out.trans hHeld.2.2.2.2.2.2.2)
      clear HT HB HX hb hHeld n3_
      have HT := n1_
      have HB := n2_
      clear n1_ n2_
      refine hK.out _ _ ⟨(blk_cell HT.out.t 0).trans rfl, (blk_cell HT.out.t 1).trans rfl, (blk_cell HT.out.t 2).trans rfl, (blk_cell HT.out.t 3).trans rfl, (blk_cell HT.out.t 4).trans rfl, (blk_cell HT.out.t 5).trans rfl, (blk_cell HT.out.t 6).trans rfl, HX2.out⟩ (fun hHeld => ?_)
      clear hK K
      refine norm_ (a' := ?_) ?_ ?_
      rotate_left
      · show Act.put _ (some 28) _ = _
        simp only [Act.put, List.setIfInBounds_toArray, List.set_cons_zero, List.set_cons_succ, i64_w, i32_w]
        rfl
      refine done_ (done_of HT_.out (by kernel_rfl)) ?_
      clear hHeld
      cases b with
      | true =>
        have hf := HF2.out
        rw [if_pos rfl] at hf
        simp only [Option.some.injEq, Prod.mk.injEq] at hf
        rw [HZI.out] at hf
        obtain ⟨rfl, rfl⟩ := hf
        go_wp2
        go_ret2
        exact ⟨rfl, HB.out⟩
      | false =>
        have hf := HF2.out
        rw [if_neg Bool.false_ne_true] at hf
        have HF3 := Aside0.mk hf
        clear hf HF2
        go_wp2
        go_roundg q1
        case measure => omega
        case rel => exact ⟨zn + 1, by have h1 := HZI.out; have h2 := HW.out; first | (rw [h2]; congr 1; omega) | (congr 1; omega), ⟨by have := HZ.out; omega⟩, HF3, HT, HB⟩
set_option maxHeartbeats 4000000 in
set_option maxRecDepth 100000 in
theorem classr_ (k gr : Nat) (o0 o1 o2 o3 o4 o5 : Bool) (w0 : World) (l : List ByteArray) (v : Value) (line : ByteArray) (r1 : Int) (l2 : List ByteArray) (w : World) (h : Tq gr o0 o1 o2 o3 o4 o5 w0 l v w) (hl : l.length ≤ 100000000) (hf : cls k o0 o1 o2 o3 o4 o5 l line = some (r1, l2)) :
    Calls Tryd.prog 24 #[.pointer (some ⟨gr, 0, none⟩), .string line] w fun e w' => e = .returned (.int .i64 r1) ∧ (∃ v', Tq gr o0 o1 o2 o3 o4 o5 w0 l2 v' w') ∧ w.heap.size ≤ w'.heap.size ∧ ∀ (g : Nat) (cs : Array Value) (t : TypeId), t ≠ 36 → t ≠ 9 → w.heap[g]? = some (.cells cs t (0, 0)) → w'.heap[g]? = some (.cells cs t (0, 0)) := by
  obtain ⟨A1, c1, rfl⟩ := Kd.R_slice h.r
  unfold cls at hf
  obtain ⟨⟨t1, t2⟩, ht, hf⟩ := Option.bind_eq_some_iff.mp hf
  have HT := Aside0.mk h
  have HL := Aside0.mk hl
  have HF := Aside0.mk ht
  clear h hl ht
  go_enter Tryd.func24, Tryd.ntmps24
  go_upto_region 2 with (go_at_call 22; refine (look_ k gr o0 o1 o2 o3 o4 o5 w0 l A1 c1 line t1 t2 w HT.out HL.out HF.out).mono ?_; rintro e w1 ⟨rfl, hb⟩; have HBB := Aside0.mk hb; have n1_ := Aside0.mk (HT.out.below hb); clear HT hb; have HT := n1_; clear n1_)
  have c6 := (blk_cell HT.out.t 6).trans (show _ = some (Value.slice A1 l.length c1) from rfl)
  have z6 := blk_frozen HT.out.t 6
  cases t2 with
  | true =>
    rw [if_pos rfl] at hf
    simp only [Option.some.injEq, Prod.mk.injEq] at hf
    obtain ⟨rfl, rfl⟩ := hf
    go_wp2
    go_ret
    exact ⟨rfl, ⟨_, HT.out⟩, HBB.out.size, fun g cs t _ _ h => blk_below h HBB.out⟩
  | false =>
    rw [if_neg Bool.false_ne_true] at hf
    simp only [Option.some.injEq, Prod.mk.injEq] at hf
    obtain ⟨rfl, rfl⟩ := hf
    go_wp2_with ((with_reducible refine gate_builtin (b := .append) (xs := #[.tmp 24, .tmp 26]) rfl ?_); at_builtin; refine Kd.R_append Kd.string (w0 := w0) w0.heap.size rfl (.tmp 24) (.tmp 26) 30 9 (.string ⟨#[]⟩) 16 rfl Tryd.underlying30 (by kernel_rfl) rfl (by decide) (by omega) (.slice A1 l.length c1) l line [.string line] (fun _ => True) (fun _ => False) rfl rfl ?aP (fun _ hk => hk.elim) ?aF ?aO ?aB ?aS ?aL ?_; (case aP => exact rfl); (case aB => exact HT.out.b); (case aF => exact (fun _ _ => trivial)); (case aO => exact HT.out.r); (case aS => exact HT.out.b.size); (case aL => have := HL.out; omega); intro v3 w3 ho hb hg hat; obtain ⟨A3, c3, rfl⟩ := Kd.R_slice ho; have n1_ := Aside0.mk (blk_grown HT.out.t hg (Kd.R_ne HT.out.r HT.out.t (by decide))); have n2_ := Aside0.mk ho; have n3_ := Aside0.mk hb; have n4_ := Aside0.mk hg; have n5_ := Aside0.mk HT.out.g; have n6_ := Aside0.mk HT.out.t; have n7_ := Aside0.mk HT.out.r; clear HT c6 z6 ho hb hg hat; have c6 := (blk_cell n1_.out 6).trans (show _ = some (Value.slice A1 l.length c1) from rfl); have z6 := blk_frozen n1_.out 6)
    go_ret
    have n2b := n2_.out
    rw [List.length_append, List.length_singleton] at n2b
    refine ⟨rfl, ⟨.slice A3 (l.length + 1) c3, blk_put n1_.out 6 _ rfl, Kd.R_set n2b n1_.out (by intro q hq; have e : (Kd.string).E = [] := rfl; rw [e] at hq; simp only [List.mem_cons, List.not_mem_nil, or_false] at hq; subst hq; decide) 6 _, n3_.out.setCell n5_.out _, n5_.out⟩, ?_, ?_⟩
    · have h1 := HBB.out.size
      have h2 := n4_.out.size
      simp [World.setCell]
      omega
    · intro g cs t h1 h2 h
      have h3 := blk_below h HBB.out
      have h4 := blk_grown h3 n4_.out (Kd.R_ne n7_.out h3 (Ne.symm h2))
      exact blk_far h4 (p := ⟨gr, 6, none⟩) (blk_ne h4 n1_.out h1) _
theorem Tq.grow {gr : Nat} {o0 o1 o2 o3 o4 o5 : Bool} {w0 : World} {l : List ByteArray} {v : Value} {W : World} (h : Tq gr o0 o1 o2 o3 o4 o5 w0 l v W) {w1 : World} {u : Value} {xs : List Int} {base : Nat} {ok : Nat → Prop} (hR : Kd.R (Kd.int .i64) 3 W base ok u xs) (hg : W.grownBy w1 u.ownBlock) (hb : Below w0.heap.size w0 w1) : Tq gr o0 o1 o2 o3 o4 o5 w0 l v w1 :=
  ⟨blk_grown h.t hg (Kd.R_ne hR h.t (by decide)), Kd.R_over' h.r (Kd.R_typed hR) (by decide) hg, hb, h.g⟩
theorem row_keep {W W' : World} {base : Nat} {ok : Nat → Prop} {v : Value} {xs : List Int} (hR : Kd.R (Kd.int .i64) 3 W base ok v xs) (h : ∀ k, v.ownBlock = some k → W'.heap[k]? = W.heap[k]?) : Kd.R (Kd.int .i64) 3 W' base ok v xs :=
  Kd.R_of_own (own_move (Kd.own_of_R hR) h) hR.1
theorem rowr_fc {W W' : World} {base : Nat} {ok : Nat → Prop} {v : Value} {xs : List Int} (hR : Kd.R (Kd.int .i64) 3 W base ok v xs) (hf : ∀ (g : Nat) (cs : Array Value) (t : TypeId), t ≠ 36 → t ≠ 9 → W.heap[g]? = some (.cells cs t (0, 0)) → W'.heap[g]? = some (.cells cs t (0, 0))) : Kd.R (Kd.int .i64) 3 W' base ok v xs :=
  row_keep hR (fun k hk => by obtain ⟨cells, hc⟩ := Kd.R_typed hR k hk; exact (hf k cells _ (by decide) (by decide) hc).trans hc.symm)
theorem row_apart {W W1 : World} {base sz : Nat} {v u : Value} {xs ys : List Int} (hR : Kd.R (Kd.int .i64) 3 W base (fun k => base ≤ k ∧ k < sz) v xs) (hU : Kd.R (Kd.int .i64) 3 W base (fun k => sz ≤ k) u ys) (hg : W.grownBy W1 u.ownBlock) : Kd.R (Kd.int .i64) 3 W1 base (fun k => base ≤ k ∧ k < sz) v xs :=
  row_keep hR (fun k hk => by
    obtain ⟨cells, hc⟩ := Kd.R_typed hR k hk
    exact (blk_grown hc hg (fun e => by have h1 := hR.1 k hk; have h2 := hU.1 k e.symm; omega)).trans hc.symm)
theorem cls_len {k : Nat} {o0 o1 o2 o3 o4 o5 : Bool} {l : List ByteArray} {s : ByteArray} {a : Int} {l2 : List ByteArray} (h : cls k o0 o1 o2 o3 o4 o5 l s = some (a, l2)) : l2.length ≤ l.length + 1 := by
  unfold cls at h
  obtain ⟨⟨t1, t2⟩, ht, h⟩ := Option.bind_eq_some_iff.mp h
  cases t2 with
  | true => rw [if_pos rfl] at h; simp only [Option.some.injEq, Prod.mk.injEq] at h; rw [← h.2]; omega
  | false => rw [if_neg Bool.false_ne_true] at h; simp only [Option.some.injEq, Prod.mk.injEq] at h; rw [← h.2]; simp
theorem run_len {k : Nat} {o0 o1 o2 o3 o4 o5 : Bool} : ∀ (r l : List ByteArray) (xs : List Int) (l2 : List ByteArray), runr k o0 o1 o2 o3 o4 o5 l r = some (xs, l2) → l2.length ≤ l.length + r.length
  | [], l, xs, l2, h => by unfold runr at h; cases h; simp
  | s :: r, l, xs, l2, h => by
    unfold runr at h
    obtain ⟨⟨t1, t2⟩, ht, h⟩ := Option.bind_eq_some_iff.mp h
    obtain ⟨⟨u1, u2⟩, hu, h⟩ := Option.bind_eq_some_iff.mp h
    cases h
    have h1 := cls_len ht
    have h2 := run_len r t2 u1 u2 hu
    show u2.length ≤ l.length + (r.length + 1)
    omega
def T11 : Bool × List (List Nat × List Nat) := (true, [([], []), ([], []), ([], []), ([2], [2]), ([3], [3]), ([4], [4]), ([5], [5]), ([0, 0], [0]), ([1, 7, 0, 1, 7], [1]), ([6, 8, 0, 1, 2, 3, 4, 5, 6, 7, 8], [6])])
def B11 : List Nat := [0, 0, 0, 4, 12, 28, 60, 1, 131, 511]
theorem tab11 : rtab .any (opsOf Tryd.f26 11) = T11 := by kernel_rfl
theorem bits11 : waitsOk T11.2 B11 = true := by kernel_rfl
end Rt
def redlineref04_Classes.f (k : Nat) (l0 l1 : List ByteArray) (a2_0 a2_1 a2_2 a2_3 a2_4 a2_5 : Bool) : Option (List Int × List Int × Int) := if l0.length ≤ 5000000 ∧ l1.length ≤ 5000000 then (Rt.runr k a2_0 a2_1 a2_2 a2_3 a2_4 a2_5 [] l0).bind fun t => (Rt.runr k a2_0 a2_1 a2_2 a2_3 a2_4 a2_5 t.2 l1).bind fun u => some (t.1, u.1, (u.2.length : Int)) else none
set_option maxHeartbeats 8000000 in
set_option maxRecDepth 100000 in
theorem redlineref04_Classes.calls (k : Nat) (A0 : Option Addr) (c0 : Nat) (l0 : List ByteArray) (A1 : Option Addr) (c1 : Nat) (l1 : List ByteArray) (a2_0 a2_1 a2_2 a2_3 a2_4 a2_5 : Bool) (r1 r2 : List Int) (r3 : Int) (w : World) (hr0 : Kd.C Kd.string w A0 l0.length l0) (hc0 : l0.length ≤ c0) (hr1 : Kd.C Kd.string w A1 l1.length l1) (hc1 : l1.length ≤ c1) (h : redlineref04_Classes.f k l0 l1 a2_0 a2_1 a2_2 a2_3 a2_4 a2_5 = some (r1, r2, r3)) :
    Calls Tryd.prog 26 #[.slice A0 l0.length c0, .slice A1 l1.length c1, .agg #[.bool a2_0, .bool a2_1, .bool a2_2, .bool a2_3, .bool a2_4, .bool a2_5]] w fun e w' => ∃ v0_ v1_ : Value, e = .returned (.tuple #[v0_, v1_, .int .i64 r3]) ∧ Kd.R (Kd.int .i64) 3 w' w.heap.size (fun k_ => some k_ ≠ (v1_ : Value).ownBlock) v0_ r1 ∧ Kd.R (Kd.int .i64) 3 w' w.heap.size (fun k_ => some k_ ≠ (v0_ : Value).ownBlock) v1_ r2 ∧ Below w.heap.size w w' := by
  unfold redlineref04_Classes.f at h
  by_cases hl : l0.length ≤ 5000000 ∧ l1.length ≤ 5000000
  case neg => rw [if_neg hl] at h; cases h
  rw [if_pos hl] at h
  obtain ⟨⟨xs, m1⟩, hX, h⟩ := Option.bind_eq_some_iff.mp h
  obtain ⟨⟨ys, m2⟩, hY, h⟩ := Option.bind_eq_some_iff.mp h
  simp only [Option.some.injEq, Prod.mk.injEq] at h
  obtain ⟨rfl, rfl, rfl⟩ := h
  have HX := Aside0.mk hX
  have HY := Aside0.mk hY
  have HLL := Aside0.mk hl
  have HM1 := Aside0.mk (show m1.length ≤ 5000000 by have := Rt.run_len l0 [] xs m1 hX; simp at this; omega)
  have HR0 := Aside0.mk hr0
  have HR1 := Aside0.mk hr1
  have HB := Aside0.mk (Below.refl w.heap.size w)
  clear hX hY hl hr0 hr1
  go_enter Tryd.func26, Tryd.ntmps26
  go_upto_region 1 with ((with_reducible refine gate_dst (N := 5) rfl ?_); refine box_event ?hg (N := 5) ?hd (cs := #[.bool a2_0, .bool a2_1, .bool a2_2, .bool a2_3, .bool a2_4, .bool a2_5]) (t := 23) ?hr ?_; (case hd => rfl); (case hg => rfl); (case hr => first | (go_simp; done) | (go_simp; rfl)); intro go hg w1 hbox hb; have n1_ := Aside0.mk (below_step HB.out hb); clear HB; have HB := n1_; clear n1_; have HO := Aside0.mk hbox; clear hbox hb hg)
  have q0 := (blk_cell HO.out 0).trans (show _ = some (Value.bool a2_0) from rfl)
  have q1 := (blk_cell HO.out 1).trans (show _ = some (Value.bool a2_1) from rfl)
  have q2 := (blk_cell HO.out 2).trans (show _ = some (Value.bool a2_2) from rfl)
  have q3 := (blk_cell HO.out 3).trans (show _ = some (Value.bool a2_3) from rfl)
  have q4 := (blk_cell HO.out 4).trans (show _ = some (Value.bool a2_4) from rfl)
  have q5 := (blk_cell HO.out 5).trans (show _ = some (Value.bool a2_5) from rfl)
  go_upto_region 2 with ((with_reducible refine gate_dst (N := 16) rfl ?_); refine box_event ?hg (N := 16) ?hd (cs := #[.bool a2_0, .bool a2_1, .bool a2_2, .bool a2_3, .bool a2_4, .bool a2_5, .slice none 0 0]) (t := 36) ?hr ?_; (case hd => rfl); (case hg => rfl); (case hr => first | (go_simp; done) | (go_simp; rfl)); intro gr hg w2 hbox hb; have HT : Aside0 (Rt.Tq gr a2_0 a2_1 a2_2 a2_3 a2_4 a2_5 w [] (.slice none 0 0) w2) := ⟨⟨hbox, Kd.R_nil _ _ _ _ _, below_step HB.out hb, by rw [hg]; exact HB.out.size⟩⟩; clear HB HO hbox hb hg q0 q1 q2 q3 q4 q5)
  go_wp2
  go_loopg [10, 12] l0.length (fun q v10 v12 w' => ∃ (z : Int) (acc : List Int) (l : List ByteArray) (v : Value) (X : List Int), v12 = .int .i64 z ∧ 0 ≤ z ∧ z ≤ 10000000 ∧ Aside0 (z + (q : Int) = l0.length ∧ acc.length = z.toNat ∧ l.length ≤ 5000000 + z.toNat) ∧ Aside0 (acc ++ X = xs) ∧ Aside0 (Rt.runr k a2_0 a2_1 a2_2 a2_3 a2_4 a2_5 l (l0.drop z.toNat) = some (X, m1)) ∧ Aside0 (Rt.Tq gr a2_0 a2_1 a2_2 a2_3 a2_4 a2_5 w l v w') ∧ Aside0 (Kd.R (Kd.int .i64) 3 w' w.heap.size (fun k => w.heap.size ≤ k) v10 acc) ∧ Aside0 (w.heap.size ≤ w'.heap.size))
  case atStart => exact ⟨0, [], [], _, xs, rfl, by omega, by omega, ⟨by omega, rfl, by simp⟩, ⟨by simp⟩, ⟨by rw [show (0 : Int).toNat = 0 from rfl, List.drop_zero]; exact HX.out⟩, HT, ⟨Kd.R_nil _ _ _ _ _⟩, ⟨HT.out.b.size⟩⟩
  case round =>
    clear HT HX
    obtain ⟨z, acc, l, v, X, rfl, hz1, hz2, HZ, HE, HX, HT, HO, HSZ⟩ := hrel
    cases gk with
    | zero =>
      have hzl : z = (l0.length : Int) := by have := HZ.out; omega
      subst hzl
      have hp : ((l0.length : Int) < (l0.length : Int)) = False := eq_false (Int.lt_irrefl _)
      have h := HX.out
      rw [Int.toNat_natCast, List.drop_length] at h
      unfold Rt.runr at h
      simp only [Option.some.injEq, Prod.mk.injEq] at h
      obtain ⟨h1, h2⟩ := h
      have he := HE.out
      rw [← h1, List.append_nil] at he
      have HT2 : Aside0 (Rt.Tq gr a2_0 a2_1 a2_2 a2_3 a2_4 a2_5 w m1 v wr) := ⟨by rw [← h2]; exact HT.out⟩
      obtain ⟨sz, hsz⟩ : ∃ sz, wr.heap.size = sz := ⟨_, rfl⟩
      have HSZ1 : Aside0 (sz ≤ wr.heap.size) := ⟨by omega⟩
      have HSW : Aside0 (w.heap.size ≤ sz) := ⟨by rw [← hsz]; exact HSZ.out⟩
      have HO1 : Aside0 (Kd.R (Kd.int .i64) 3 wr w.heap.size (fun k => w.heap.size ≤ k ∧ k < sz) u10 xs) := ⟨by rw [← he, ← hsz]; exact Kd.R_mono (Kd.R_bound HO.out) (fun k hk => ⟨hk.1, hk.2.2.1⟩)⟩
      clear HO HSZ HE HX HZ HT hz1 hz2 h1 h2 he hsz X acc l
      go_wp2
      go_loopg [11, 13] l1.length (fun q v11 v13 w' => ∃ (z : Int) (acc : List Int) (l : List ByteArray) (v : Value) (X : List Int), v13 = .int .i64 z ∧ 0 ≤ z ∧ z ≤ 10000000 ∧ Aside0 (z + (q : Int) = l1.length ∧ acc.length = z.toNat ∧ l.length ≤ 5000000 + z.toNat) ∧ Aside0 (acc ++ X = ys) ∧ Aside0 (Rt.runr k a2_0 a2_1 a2_2 a2_3 a2_4 a2_5 l (l1.drop z.toNat) = some (X, m2)) ∧ Aside0 (Rt.Tq gr a2_0 a2_1 a2_2 a2_3 a2_4 a2_5 w l v w') ∧ Aside0 (Kd.R (Kd.int .i64) 3 w' w.heap.size (fun k => sz ≤ k) v11 acc) ∧ Aside0 (sz ≤ w'.heap.size) ∧ Aside0 (Kd.R (Kd.int .i64) 3 w' w.heap.size (fun k => w.heap.size ≤ k ∧ k < sz) u10 xs))
      case atStart => exact ⟨0, [], m1, _, ys, rfl, by omega, by omega, ⟨by omega, rfl, by have := HM1.out; omega⟩, ⟨by simp⟩, ⟨by rw [show (0 : Int).toNat = 0 from rfl, List.drop_zero]; exact HY.out⟩, HT2, ⟨Kd.R_nil _ _ _ _ _⟩, HSZ1, HO1⟩
      case round =>
        clear HT2 HY HO1 HSZ1
        obtain ⟨z, acc, l, v, X, rfl, hz1, hz2, HZ, HE, HY, HT, HO, HSZ, HO1⟩ := hrel
        cases gk with
        | zero =>
          have hzl : z = (l1.length : Int) := by have := HZ.out; omega
          subst hzl
          have hp : ((l1.length : Int) < (l1.length : Int)) = False := eq_false (Int.lt_irrefl _)
          have h := HY.out
          rw [Int.toNat_natCast, List.drop_length] at h
          unfold Rt.runr at h
          simp only [Option.some.injEq, Prod.mk.injEq] at h
          obtain ⟨h1, h2⟩ := h
          have he := HE.out
          rw [← h1, List.append_nil] at he
          have HT2 : Aside0 (Rt.Tq gr a2_0 a2_1 a2_2 a2_3 a2_4 a2_5 w m2 v wr) := ⟨by rw [← h2]; exact HT.out⟩
          have HO2 : Aside0 (Kd.R (Kd.int .i64) 3 wr w.heap.size (fun k => sz ≤ k) u11 ys) := ⟨by rw [← he]; exact HO.out⟩
          obtain ⟨A3, c3, hv3⟩ := Kd.R_slice HT2.out.r
          subst hv3
          clear HO HSZ HE HY HZ HT hz1 hz2 h1 h2 he X acc l
          go_wp2
          have n1_ := Aside0.mk (HT2.out.below ((Below.refl _ _).drew))
          have n2_ := Aside0.mk (Kd.R_drew HO1.out)
          have n3_ := Aside0.mk (Kd.R_drew HO2.out)
          clear HT2 HO1 HO2
          have HT2 := n1_
          have HO1 := n2_
          have HO2 := n3_
          clear n1_ n2_ n3_
          refine start_ (n := 10) (S := fun w' => w'.cell? ⟨gr, 6, none⟩ = some (.slice A3 m2.length c3)) (ds := []) #[false, false, false, false, false, false, false, false, false, false] (by kernel_rfl) rfl rfl ((blk_cell HT2.out.t 6).trans rfl) (fun hHeld => ?_)
          refine with_tabW Rt.tab11 Rt.bits11 (fun HT_ HW_ => ?_)
          generalize wr.drew = w5 at HT2 HO1 HO2 hHeld ⊢
          refine pure_ (i := 0) (N := some 47) (v := ?_) (a' := ?_) #[true, false, false, false, false, false, false, false, false, false] rfl rfl (any_of HT_.out (by kernel_rfl)) (fun _ _ _ h => h) (Or.inl ⟨by rfl, ?_⟩) ?_ ?_
          rotate_left
          · intro w'
            go_simp
            with_reducible rfl
          rotate_left
          · simp only [Act.put, List.setIfInBounds_toArray, List.set_cons_zero, List.set_cons_succ, i64_w, i32_w]
            rfl
          refine pure_ (i := 1) (N := some 48) (v := ?_) (a' := ?_) #[true, true, false, false, false, false, false, false, false, false] rfl rfl (any_of HT_.out (by kernel_rfl)) (fun _ _ _ h => h) (Or.inl ⟨by rfl, ?_⟩) ?_ ?_
          rotate_left
          · intro w'
            go_simp
            with_reducible rfl
          rotate_left
          · simp only [Act.put, List.setIfInBounds_toArray, List.set_cons_zero, List.set_cons_succ, i64_w, i32_w]
            rfl
          refine pure_ (i := 2) (N := some 49) (v := ?_) (a' := ?_) #[true, true, true, false, false, false, false, false, false, false] rfl rfl (any_of HT_.out (by kernel_rfl)) (fun _ _ _ h => h) (Or.inl ⟨by rfl, ?_⟩) ?_ ?_
          rotate_left
          · intro w'
            go_simp
            with_reducible rfl
          rotate_left
          · simp only [Act.put, List.setIfInBounds_toArray, List.set_cons_zero, List.set_cons_succ, i64_w, i32_w]
            rfl
          refine pure_ (i := 3) (N := some 50) (v := ?_) (a' := ?_) #[true, true, true, true, false, false, false, false, false, false] rfl rfl (any_of HT_.out (by kernel_rfl)) (fun _ _ _ h => h) (Or.inl ⟨by rfl, ?_⟩) ?_ ?_
          rotate_left
          · intro w'
            go_simp
            with_reducible rfl
          rotate_left
          · simp only [Act.put, List.setIfInBounds_toArray, List.set_cons_zero, List.set_cons_succ, i64_w, i32_w]
            rfl
          refine pure_ (i := 4) (N := some 51) (v := ?_) (a' := ?_) #[true, true, true, true, true, false, false, false, false, false] rfl rfl (any_of HT_.out (by kernel_rfl)) (fun _ _ _ h => h) (Or.inl ⟨by rfl, ?_⟩) ?_ ?_
          rotate_left
          · intro w'
            go_simp
            with_reducible rfl
          rotate_left
          · simp only [Act.put, List.setIfInBounds_toArray, List.set_cons_zero, List.set_cons_succ, i64_w, i32_w]
            rfl
          refine take_ (i := 5) (N := some 52) (v := ?_) (a' := ?_) #[true, true, true, true, true, true, false, false, false, false] rfl rfl (take_ofW HT_.out HW_.out (by kernel_rfl)) (fun _ _ _ h => h) (Or.inl ⟨by rfl, ?_⟩) hHeld ?_ ?_
          rotate_left
          · intro w' s0
            go_simp
            with_reducible rfl
          rotate_left
          · simp only [Act.put, List.setIfInBounds_toArray, List.set_cons_zero, List.set_cons_succ, i64_w, i32_w]
            rfl
          refine pure_ (i := 6) (N := some 53) (v := ?_) (a' := ?_) #[true, true, true, true, true, true, true, false, false, false] rfl rfl (any_of HT_.out (by kernel_rfl)) (fun _ _ _ h => h) (Or.inl ⟨by rfl, ?_⟩) ?_ ?_
          rotate_left
          · intro w'
            go_simp
            with_reducible rfl
          rotate_left
          · simp only [Act.put, List.setIfInBounds_toArray, List.set_cons_zero, List.set_cons_succ, i64_w, i32_w]
            rfl
          refine pure_ (i := 7) (N := some 6) (v := ?_) (a' := ?_) #[true, true, true, true, true, true, true, true, false, false] rfl rfl (any_of HT_.out (by kernel_rfl)) (fun _ _ _ h => h) (Or.inl ⟨by rfl, ?_⟩) ?_ ?_
          rotate_left
          · intro w'
            go_simp
            with_reducible rfl
          rotate_left
          · simp only [Act.put, List.setIfInBounds_toArray, List.set_cons_zero, List.set_cons_succ, i64_w, i32_w]
            rfl
          refine pure_ (i := 8) (N := some 7) (v := ?_) (a' := ?_) #[true, true, true, true, true, true, true, true, true, false] rfl rfl (any_of HT_.out (by kernel_rfl)) (fun _ _ _ h => h) (Or.inl ⟨by rfl, ?_⟩) ?_ ?_
          rotate_left
          · intro w'
            go_simp
            with_reducible rfl
          rotate_left
          · simp only [Act.put, List.setIfInBounds_toArray, List.set_cons_zero, List.set_cons_succ, i64_w, i32_w]
            rfl
          refine pure_ (i := 9) (N := some 8) (v := ?_) (a' := ?_) #[true, true, true, true, true, true, true, true, true, true] rfl rfl (any_of HT_.out (by kernel_rfl)) (fun _ _ _ h => h) (Or.inl ⟨by rfl, ?_⟩) ?_ ?_
          rotate_left
          · intro w'
            go_simp
            with_reducible rfl
          rotate_left
          · simp only [Act.put, List.setIfInBounds_toArray, List.set_cons_zero, List.set_cons_succ, i64_w, i32_w]
            rfl
          refine done_ (done_of HT_.out (by kernel_rfl)) ?_
          go_wp2
          go_ret3
          exact ⟨u10, u11, rfl, Kd.R_mono HO1.out (fun k hk e => by have h1 := HO2.out.1 k e.symm; omega), Kd.R_mono HO2.out (fun k hk e => by have h1 := HO1.out.1 k e.symm; omega), HT2.out.b⟩
        | succ q1 =>
          have hzl : decide (z < (l1.length : Int)) = true := decide_eq_true (by have := HZ.out; omega)
          have hz3 := of_decide_eq_true hzl
          have hzn : z.toNat < l1.length := by omega
          obtain ⟨ad0, ea0, hx0⟩ := Kd.at_string HR1.out z hz1 hz3
          cases ea0
          have hxs := (HT.out.b.cell (World.block_lt_of_cell? w _ hx0)).trans hx0
          obtain ⟨s, hs⟩ : ∃ s, rdOf ByteArray.empty l1 z = s := ⟨_, rfl⟩
          rw [hs] at hxs
          have hd : l1.drop z.toNat = s :: l1.drop (z + 1).toNat := by
            rw [show (z + 1).toNat = z.toNat + 1 by omega, ← hs, List.drop_eq_getElem_cons hzn]
            simp [rdOf, List.getD_eq_getElem?_getD, hzn]
          have he := HY.out
          rw [hd] at he
          unfold Rt.runr at he
          obtain ⟨⟨ni, l2⟩, hc, he⟩ := Option.bind_eq_some_iff.mp he
          obtain ⟨⟨X2, l3⟩, hu, he⟩ := Option.bind_eq_some_iff.mp he
          simp only [Option.some.injEq, Prod.mk.injEq] at he
          obtain ⟨h1, h2⟩ := he
          have HE2 : Aside0 ((acc ++ [ni]) ++ X2 = ys) := ⟨by rw [List.append_assoc]; have := HE.out; rw [← h1] at this; exact this⟩
          have HU : Aside0 (Rt.runr k a2_0 a2_1 a2_2 a2_3 a2_4 a2_5 l2 (l1.drop (z + 1).toNat) = some (X2, m2)) := ⟨by rw [← h2]; exact hu⟩
          have HL2 : Aside0 (l2.length ≤ 5000000 + (z + 1).toNat) := ⟨by have h1 := Rt.cls_len hc; have := HZ.out; omega⟩
          have HC := Aside0.mk hc
          have p1 := eq_true hz1
          have p2 := eq_true hz3
          have hw : wrap64 (z + 1) = z + 1 := by unfold wrap64; omega
          have HW := Aside0.mk hw
          clear hx0 hs hd hc hu h1 h2 hw HE HY
          go_wp2_with (first | (go_at_call 24; refine (Rt.classr_ k gr a2_0 a2_1 a2_2 a2_3 a2_4 a2_5 w l v s ni l2 wr HT.out (by have := HZ.out; have := HLL.out; omega) HC.out).mono ?_; rintro e w5 ⟨rfl, ⟨v5, ht⟩, hs5, hf⟩; have n1_ := Aside0.mk ht; have n2_ := Aside0.mk (Rt.rowr_fc HO.out hf); have n3_ := Aside0.mk (Nat.le_trans HSZ.out hs5); have n8_ := Aside0.mk (Rt.rowr_fc HO1.out hf); clear HT HO HSZ HO1 ht hs5 hf hxs; have HT := n1_; have HO := n2_; have HSZ := n3_; have HO1 := n8_; clear n1_ n2_ n3_; clear n8_;) | ((with_reducible refine gate_builtin (b := .append) (xs := #[.tmp 38, .tmp 45]) rfl ?_); at_builtin; refine Kd.R_append (Kd.int .i64) (w0 := w) w.heap.size rfl (.tmp 38) (.tmp 45) 42 3 (.int .i64 0) 8 rfl Tryd.underlying42 (by kernel_rfl) rfl (by decide) (by omega) u11 acc ni [.int .i64 ni] (fun k => sz ≤ k) (fun _ => False) rfl rfl ?aP (fun _ hk => hk.elim) ?aF ?aO ?aB ?aS ?aL ?_; (case aP => exact rfl); (case aB => exact HT.out.b); (case aF => exact (fun k hk => Nat.le_trans HSZ.out hk)); (case aO => exact HO.out); (case aS => exact HT.out.b.size); (case aL => have := HZ.out; have := HLL.out; omega); intro v7 w7 ho hb hg hat; have n1_ := Aside0.mk (Rt.Tq.grow HT.out HO.out hg hb); have n2_ := Aside0.mk ho; have n3_ := Aside0.mk (Nat.le_trans HSZ.out hg.size); have n8_ := Aside0.mk (Rt.row_apart HO1.out HO.out hg); clear HT HO HSZ HO1 ho hb hg hat; have HT := n1_; have HO := n2_; have HSZ := n3_; have HO1 := n8_; clear n1_ n2_ n3_; clear n8_;))
          go_roundg q1
          case measure => omega
          case rel => exact ⟨z + 1, _, l2, v5, X2, by go_num, by omega, by have := HZ.out; have := HLL.out; omega, ⟨by have := HZ.out; omega, by have := HZ.out; simp; omega, HL2.out⟩, HE2, HU, HT, HO, HSZ, HO1⟩
    | succ q1 =>
      have hzl : decide (z < (l0.length : Int)) = true := decide_eq_true (by have := HZ.out; omega)
      have hz3 := of_decide_eq_true hzl
      have hzn : z.toNat < l0.length := by omega
      obtain ⟨ad0, ea0, hx0⟩ := Kd.at_string HR0.out z hz1 hz3
      cases ea0
      have hxs := (HT.out.b.cell (World.block_lt_of_cell? w _ hx0)).trans hx0
      obtain ⟨s, hs⟩ : ∃ s, rdOf ByteArray.empty l0 z = s := ⟨_, rfl⟩
      rw [hs] at hxs
      have hd : l0.drop z.toNat = s :: l0.drop (z + 1).toNat := by
        rw [show (z + 1).toNat = z.toNat + 1 by omega, ← hs, List.drop_eq_getElem_cons hzn]
        simp [rdOf, List.getD_eq_getElem?_getD, hzn]
      have he := HX.out
      rw [hd] at he
      unfold Rt.runr at he
      obtain ⟨⟨ni, l2⟩, hc, he⟩ := Option.bind_eq_some_iff.mp he
      obtain ⟨⟨X2, l3⟩, hu, he⟩ := Option.bind_eq_some_iff.mp he
      simp only [Option.some.injEq, Prod.mk.injEq] at he
      obtain ⟨h1, h2⟩ := he
      have HE2 : Aside0 ((acc ++ [ni]) ++ X2 = xs) := ⟨by rw [List.append_assoc]; have := HE.out; rw [← h1] at this; exact this⟩
      have HU : Aside0 (Rt.runr k a2_0 a2_1 a2_2 a2_3 a2_4 a2_5 l2 (l0.drop (z + 1).toNat) = some (X2, m1)) := ⟨by rw [← h2]; exact hu⟩
      have HL2 : Aside0 (l2.length ≤ 5000000 + (z + 1).toNat) := ⟨by have h1 := Rt.cls_len hc; have := HZ.out; omega⟩
      have HC := Aside0.mk hc
      have p1 := eq_true hz1
      have p2 := eq_true hz3
      have hw : wrap64 (z + 1) = z + 1 := by unfold wrap64; omega
      have HW := Aside0.mk hw
      clear hx0 hs hd hc hu h1 h2 hw HE HX
      go_wp2_with (first | (go_at_call 24; refine (Rt.classr_ k gr a2_0 a2_1 a2_2 a2_3 a2_4 a2_5 w l v s ni l2 wr HT.out (by have := HZ.out; have := HLL.out; omega) HC.out).mono ?_; rintro e w5 ⟨rfl, ⟨v5, ht⟩, hs5, hf⟩; have n1_ := Aside0.mk ht; have n2_ := Aside0.mk (Rt.rowr_fc HO.out hf); have n3_ := Aside0.mk (Nat.le_trans HSZ.out hs5); clear HT HO HSZ ht hs5 hf hxs; have HT := n1_; have HO := n2_; have HSZ := n3_; clear n1_ n2_ n3_;) | ((with_reducible refine gate_builtin (b := .append) (xs := #[.tmp 23, .tmp 30]) rfl ?_); at_builtin; refine Kd.R_append (Kd.int .i64) (w0 := w) w.heap.size rfl (.tmp 23) (.tmp 30) 42 3 (.int .i64 0) 8 rfl Tryd.underlying42 (by kernel_rfl) rfl (by decide) (by omega) u10 acc ni [.int .i64 ni] (fun k => w.heap.size ≤ k) (fun _ => False) rfl rfl ?aP (fun _ hk => hk.elim) ?aF ?aO ?aB ?aS ?aL ?_; (case aP => exact rfl); (case aB => exact HT.out.b); (case aF => exact (fun k hk => Nat.le_trans HSZ.out hk)); (case aO => exact HO.out); (case aS => exact HT.out.b.size); (case aL => have := HZ.out; have := HLL.out; omega); intro v7 w7 ho hb hg hat; have n1_ := Aside0.mk (Rt.Tq.grow HT.out HO.out hg hb); have n2_ := Aside0.mk ho; have n3_ := Aside0.mk (Nat.le_trans HSZ.out hg.size); clear HT HO HSZ ho hb hg hat; have HT := n1_; have HO := n2_; have HSZ := n3_; clear n1_ n2_ n3_;))
      go_roundg q1
      case measure => omega
      case rel => exact ⟨z + 1, _, l2, v5, X2, by go_num, by omega, by have := HZ.out; have := HLL.out; omega, ⟨by have := HZ.out; omega, by have := HZ.out; simp; omega, HL2.out⟩, HE2, HU, HT, HO, HSZ⟩
end Go.Proofs.YtglffceopijogaaDoor.X
