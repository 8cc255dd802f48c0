import Derived.Test.YtglffceopijogaaDoorZBXx0
import Derived.Test.YtglffceopijogaaDoorZBXx59
namespace Go.Proofs.YtglffceopijogaaDoor.X
open Go.RowKit Go.Proofs.YtglffceopijogaaDoorW.PrintWords Go.Proofs.YtglffceopijogaaDoorW.PrintLast Go.Proofs.YtglffceopijogaaDoorW.PrintMore
attribute [local go_sem] max2_int min2_int max_two min_two max_three min_three max_four min_four   -- for this text's walks alone
open Go.Proofs.YtglffceopijogaaDoorW.HandWords
set_option linter.unusedVariables false
set_option linter.unusedSimpArgs false
namespace Rt
def lookr (k : Nat) (o0 o1 o2 o3 o4 o5 : Bool) (line : ByteArray) : List ByteArray → Nat → Option (Int × Bool)
  | [], _ => some (0, false)
  | s :: l, i => (redlineref03_Equal.f k s line o0 o1 o2 o3 o4 o5).bind fun b => if b = true then some ((i : Int), true) else lookr k o0 o1 o2 o3 o4 o5 line l (i + 1)
def cls (k : Nat) (o0 o1 o2 o3 o4 o5 : Bool) (l : List ByteArray) (line : ByteArray) : Option (Int × List ByteArray) := (lookr k o0 o1 o2 o3 o4 o5 line l 0).bind fun t => if t.2 = true then some (t.1, l) else some ((l.length : Int), l ++ [line])
def runr (k : Nat) (o0 o1 o2 o3 o4 o5 : Bool) : List ByteArray → List ByteArray → Option (List Int × List ByteArray)
  | l, [] => some ([], l)
  | l, s :: r => (cls k o0 o1 o2 o3 o4 o5 l s).bind fun t => (runr k o0 o1 o2 o3 o4 o5 t.2 r).bind fun u => some (t.1 :: u.1, u.2)
structure Tq (gr : Nat) (o0 o1 o2 o3 o4 o5 : Bool) (w0 : World) (l : List ByteArray) (v : Value) (W : World) : Prop where
  t : W.heap[gr]? = some (.cells #[.bool o0, .bool o1, .bool o2, .bool o3, .bool o4, .bool o5, v] 36 (0, 0))
  r : Kd.R Kd.string 9 W w0.heap.size (fun _ => True) v l
  b : Below w0.heap.size w0 W
  g : w0.heap.size ≤ gr
section
variable {gr : Nat} {o0 o1 o2 o3 o4 o5 : Bool} {w0 : World} {l : List ByteArray} {v : Value} {W : World}
theorem Tq.below (h : Tq gr o0 o1 o2 o3 o4 o5 w0 l v W) {W' : World} (hb : Below W.heap.size W W') : Tq gr o0 o1 o2 o3 o4 o5 w0 l v W' :=
  ⟨blk_below h.t hb, Kd.R_below h.r hb, h.b.trans (hb.mono h.b.size), h.g⟩
end
def T4r : Bool × List (List Nat × List Nat) := (true, [([], []), ([0], [0]), ([1], [1]), ([2], [2]), ([], []), ([3, 4], [3, 4]), ([5], [5]), ([], []), ([], []), ([8], [8]), ([9], [9]), ([10], [10]), ([6, 7, 11], [6, 7, 11])])
def B4r : List Nat := [0, 1, 3, 7, 0, 31, 63, 0, 0, 256, 768, 1792, 4095]
theorem tab4r : rtab .any (opsOf Tryd.f22 4) = T4r := by kernel_rfl
theorem bits4r : waitsOk T4r.2 B4r = true := by kernel_rfl
set_option maxHeartbeats 8000000 in
set_option maxRecDepth 100000 in
theorem look_ (k gr : Nat) (o0 o1 o2 o3 o4 o5 : Bool) (w0 : World) (l : List ByteArray) (A1 : Option Addr) (c1 : Nat) (line : ByteArray) (r1 : Int) (r2 : Bool) (w : World) (h : Tq gr o0 o1 o2 o3 o4 o5 w0 l (.slice A1 l.length c1) w) (hl : l.length ≤ 100000000) (hf : lookr k o0 o1 o2 o3 o4 o5 line l 0 = some (r1, r2)) :
    Calls Tryd.prog 22 #[.pointer (some ⟨gr, 0, none⟩), .string line] w fun e w' => e = .returned (.tuple #[.int .i64 r1, .bool r2]) ∧ Below w.heap.size w w' := by
  have HT := Aside0.mk h
  have HL := Aside0.mk hl
  have HF := Aside0.mk hf
  have HB := Aside0.mk (Below.refl w.heap.size w)
  clear h hl hf
  go_enter Tryd.func22, Tryd.ntmps22
  go_wp2
  go_loopg [6] l.length (fun q v6 w' => ∃ z : Nat, v6 = .int .i64 (z : Int) ∧ Aside0 (z + q = l.length) ∧ Aside0 (lookr k o0 o1 o2 o3 o4 o5 line (l.drop z) z = some (r1, r2)) ∧ Aside0 (Tq gr o0 o1 o2 o3 o4 o5 w0 l (.slice A1 l.length c1) w') ∧ Aside0 (Below w.heap.size w w'))
  case atStart => exact ⟨0, rfl, ⟨by omega⟩, HF, HT, HB⟩
  case round =>
    clear HF HT HB
    obtain ⟨zn, rfl, HZ, HF, HT, HB⟩ := hrel
    obtain ⟨z, hz⟩ : ∃ z : Int, (zn : Int) = z := ⟨_, rfl⟩
    rw [hz]
    have hz1 : 0 ≤ z := by omega
    have hzt : z.toNat = zn := by omega
    have c6 := (blk_cell HT.out.t 6).trans (show _ = some (Value.slice A1 l.length c1) from rfl)
    cases gk with
    | zero =>
      have hzl : z = (l.length : Int) := by have := HZ.out; omega
      subst hzl
      have hp : ((l.length : Int) < (l.length : Int)) = False := eq_false (Int.lt_irrefl _)
      have h := HF.out
      rw [List.drop_eq_nil_of_le (by have := HZ.out; omega), lookr] at h
      simp only [Option.some.injEq, Prod.mk.injEq] at h
      obtain ⟨rfl, rfl⟩ := h
      go_wp2
      go_ret2
      exact ⟨rfl, HB.out⟩
    | succ q1 =>
      have hzn : zn < l.length := by have := HZ.out; omega
      have hzl : decide (z < (l.length : Int)) = true := decide_eq_true (by omega)
      have hz3 := of_decide_eq_true hzl
      obtain ⟨ad0, ea0, hx0⟩ := Kd.at_string (Kd.R_reads' HT.out.r).2.2 z hz1 hz3
      cases ea0
      obtain ⟨s, hs⟩ : ∃ s, rdOf ByteArray.empty l z = s := ⟨_, rfl⟩
      rw [hs] at hx0
      have hd : l.drop zn = s :: l.drop (zn + 1) := by
        rw [← hs, List.drop_eq_getElem_cons hzn]
        simp [rdOf, hzt, List.getD_eq_getElem?_getD, hzn]
      have hf := HF.out
      rw [hd, lookr] at hf
      obtain ⟨b, hb, hf⟩ := Option.bind_eq_some_iff.mp hf
      have HE := Aside0.mk hb
      have HF2 := Aside0.mk hf
      have HX := Aside0.mk hx0
      have p1 := eq_true hz1
      have p2 := eq_true hz3
      have hw : wrap64 (z + 1) = z + 1 := by have := HL.out; unfold wrap64; omega
      have HW := Aside0.mk hw
      have HZI := Aside0.mk hz
      clear hb hf hd hs HF hw hz hzt hzn
      go_upto_region 4 with (fail)
      clear c6 hx0
      have n1_ := Aside0.mk (HT.out.below ((Below.refl _ _).drew))
      have n2_ := Aside0.mk (below_drew1 HB.out)
      clear HT HB
      have HT := n1_
      have HB := n2_
      clear n1_ n2_
      refine start_ (n := 13) (S := fun w' => w'.cell? ⟨gr, 0, none⟩ = some (.bool o0) ∧ w'.cell? ⟨gr, 1, none⟩ = some (.bool o1) ∧ w'.cell? ⟨gr, 2, none⟩ = some (.bool o2) ∧ w'.cell? ⟨gr, 3, none⟩ = some (.bool o3) ∧ w'.cell? ⟨gr, 4, none⟩ = some (.bool o4) ∧ w'.cell? ⟨gr, 5, none⟩ = some (.bool o5) ∧ w'.cell? ⟨gr, 6, none⟩ = some (.slice (some ad0) l.length c1) ∧ w'.cell? (ad0.add (z.toNat)) = some (.string s)) (ds := []) #[false, false, false, false, false, false, false, false, false, false, false, false, false] (by kernel_rfl) rfl rfl ⟨(blk_cell HT.out.t 0).trans rfl, (blk_cell HT.out.t 1).trans rfl, (blk_cell HT.out.t 2).trans rfl, (blk_cell HT.out.t 3).trans rfl, (blk_cell HT.out.t 4).trans rfl, (blk_cell HT.out.t 5).trans rfl, (blk_cell HT.out.t 6).trans rfl, HX.out⟩ (fun hHeld => ?_)
      refine with_tabW tab4r bits4r (fun HT_ HW_ => ?_)
      generalize wr.drew = w5 at HT HB hHeld ⊢
      refine pure_ (i := 0) (N := some 16) (v := ?_) (a' := ?_) #[true, false, false, false, false, false, false, false, false, false, false, false, false] rfl rfl (any_of HT_.out (by kernel_rfl)) (fun _ _ _ h => h) (Or.inl ⟨by rfl, ?_⟩) ?_ ?_
      rotate_left
      · intro w'
        go_simp
        with_reducible rfl
      rotate_left
      · simp only [Act.put, List.setIfInBounds_toArray, List.set_cons_zero, List.set_cons_succ, i64_w, i32_w]
        rfl
      refine pure_ (i := 1) (N := some 17) (v := ?_) (a' := ?_) #[true, true, false, false, false, false, false, false, false, false, false, false, false] rfl rfl (any_of HT_.out (by kernel_rfl)) (fun _ _ _ h => h) (Or.inl ⟨by rfl, ?_⟩) ?_ ?_
      rotate_left
      · intro w'
        go_simp
        with_reducible rfl
      rotate_left
      · simp only [Act.put, List.setIfInBounds_toArray, List.set_cons_zero, List.set_cons_succ, i64_w, i32_w]
        rfl
      refine pure_ (i := 2) (N := some 18) (v := ?_) (a' := ?_) #[true, true, true, false, false, false, false, false, false, false, false, false, false] rfl rfl (any_of HT_.out (by kernel_rfl)) (fun _ _ _ h => h) (Or.inl ⟨by rfl, ?_⟩) ?_ ?_
      rotate_left
      · intro w'
        go_simp
        with_reducible rfl
      rotate_left
      · simp only [Act.put, List.setIfInBounds_toArray, List.set_cons_zero, List.set_cons_succ, i64_w, i32_w]
        rfl
      refine take_ (i := 3) (N := some 19) (v := ?_) (a' := ?_) #[true, true, true, true, false, false, false, false, false, false, false, false, false] rfl rfl (take_ofW HT_.out HW_.out (by kernel_rfl)) (fun _ _ _ h => h) (Or.inl ⟨by rfl, ?_⟩) hHeld ?_ ?_
      rotate_left
      · rintro w' ⟨s0, s1, s2, s3, s4, s5, s6, s7⟩
        go_simp
        with_reducible rfl
      rotate_left
      · simp only [Act.put, List.setIfInBounds_toArray, List.set_cons_zero, List.set_cons_succ, i64_w, i32_w]
        rfl
      refine pure_ (i := 4) (N := some 20) (v := ?_) (a' := ?_) #[true, true, true, true, true, false, false, false, false, false, false, false, false] rfl rfl (any_of HT_.out (by kernel_rfl)) (fun _ _ _ h => h) (Or.inl ⟨by rfl, ?_⟩) ?_ ?_
      rotate_left
      · intro w'
        go_simp
        with_reducible rfl
      rotate_left
      · simp only [Act.put, List.setIfInBounds_toArray, List.set_cons_zero, List.set_cons_succ, i64_w, i32_w]
        rfl
      refine pure_ (i := 5) (N := some 21) (v := ?_) (a' := ?_) #[true, true, true, true, true, true, false, false, false, false, false, false, false] rfl rfl (any_of HT_.out (by kernel_rfl)) (fun _ _ _ h => h) (Or.inl ⟨by rfl, ?_⟩) ?_ ?_
      rotate_left
      · intro w'
        go_simp
        with_reducible rfl
      rotate_left
      · simp only [Act.put, List.setIfInBounds_toArray, List.set_cons_zero, List.set_cons_succ, i64_w, i32_w]
        rfl
      refine take_ (i := 6) (N := some 22) (v := ?_) (a' := ?_) #[true, true, true, true, true, true, true, false, false, false, false, false, false] rfl rfl (take_ofW HT_.out HW_.out (by kernel_rfl)) (fun _ _ _ h => h) (Or.inl ⟨by rfl, ?_⟩) hHeld ?_ ?_
      rotate_left
      · rintro w' ⟨s0, s1, s2, s3, s4, s5, s6, s7⟩
        go_simp
        with_reducible rfl
      rotate_left
      · simp only [Act.put, List.setIfInBounds_toArray, List.set_cons_zero, List.set_cons_succ, i64_w, i32_w]
        rfl
      refine pure_ (i := 7) (N := some 23) (v := ?_) (a' := ?_) #[true, true, true, true, true, true, true, true, false, false, false, false, false] rfl rfl (any_of HT_.out (by kernel_rfl)) (fun _ _ _ h => h) (Or.inl ⟨by rfl, ?_⟩) ?_ ?_
      rotate_left
      · intro w'
        go_simp
        with_reducible rfl
      rotate_left
      · simp only [Act.put, List.setIfInBounds_toArray, List.set_cons_zero, List.set_cons_succ, i64_w, i32_w]
        rfl
      refine pure_ (i := 8) (N := some 24) (v := ?_) (a' := ?_) #[true, true, true, true, true, true, true, true, true, false, false, false, false] rfl rfl (any_of HT_.out (by kernel_rfl)) (fun _ _ _ h => h) (Or.inl ⟨by rfl, ?_⟩) ?_ ?_
      rotate_left
      · intro w'
        go_simp
        with_reducible rfl
      rotate_left
      · simp only [Act.put, List.setIfInBounds_toArray, List.set_cons_zero, List.set_cons_succ, i64_w, i32_w]
        rfl
      refine pure_ (i := 9) (N := some 25) (v := ?_) (a' := ?_) #[true, true, true, true, true, true, true, true, true, true, false, false, false] rfl rfl (any_of HT_.out (by kernel_rfl)) (fun _ _ _ h => h) (Or.inl ⟨by rfl, ?_⟩) ?_ ?_
      rotate_left
      · intro w'
        go_simp
        with_reducible rfl
      rotate_left
      · simp only [Act.put, List.setIfInBounds_toArray, List.set_cons_zero, List.set_cons_succ, i64_w, i32_w]
        rfl
      refine pure_ (i := 10) (N := some 26) (v := ?_) (a' := ?_) #[true, true, true, true, true, true, true, true, true, true, true, false, false] rfl rfl (any_of HT_.out (by kernel_rfl)) (fun _ _ _ h => h) (Or.inl ⟨by rfl, ?_⟩) ?_ ?_
      rotate_left
      · intro w'
        go_simp
        with_reducible rfl
      rotate_left
      · simp only [Act.put, List.setIfInBounds_toArray, List.set_cons_zero, List.set_cons_succ, i64_w, i32_w]
        rfl
      refine take_ (i := 11) (N := some 27) (v := ?_) (a' := ?_) #[true, true, true, true, true, true, true, true, true, true, true, true, false] rfl rfl (take_ofW HT_.out HW_.out (by kernel_rfl)) (fun _ _ _ h => h) (Or.inl ⟨by rfl, ?_⟩) hHeld ?_ ?_
      rotate_left
      · rintro w' ⟨s0, s1, s2, s3, s4, s5, s6, s7⟩
        go_simp
        with_reducible rfl
      rotate_left
      · simp only [Act.put, List.setIfInBounds_toArray, List.set_cons_zero, List.set_cons_succ, i64_w, i32_w]
        rfl
      refine one_ (i := 12) (N := some 28) #[true, true, true, true, true, true, true, true, true, true, true, true, true] rfl rfl (one_of HT_.out (by kernel_rfl)) (by decide) (fun K hK => ?_)
      refine goes_ Tryd.func15 (by kernel_rfl) rfl #[.string s, .string line, .agg #[.bool o0, .bool o1, .bool o2, .bool o3, .bool o4, .bool o5]] (by rfl) rfl rfl (by (try simp only [List.map_toArray, List.map_cons, List.map_nil]); first | done | rfl) ?_
      refine (redlineref03_Equal.calls k s line o0 o1 o2 o3 o4 o5 b w5 HE.out).mono ?_
      rintro e' w6 ⟨rfl, hb⟩
      refine ⟨_, rfl, ?_⟩
      have n1_ := Aside0.mk (HT.out.below hb)
      have n2_ := Aside0.mk (below_step HB.out hb)
      have n3_ := Aside0.mk (hb.cell (World.block_lt_of_cell? _ _ hHeld.2.2.2.2.2.2.2))
      have HX2 := Aside0.mk (n3_.out.trans hHeld.2.2.2.2.2.2.2)
      clear HT HB HX hb hHeld n3_
      have HT := n1_
      have HB := n2_
      clear n1_ n2_
      refine hK.out _ _ ⟨(blk_cell HT.out.t 0).trans rfl, (blk_cell HT.out.t 1).trans rfl, (blk_cell HT.out.t 2).trans rfl, (blk_cell HT.out.t 3).trans rfl, (blk_cell HT.out.t 4).trans rfl, (blk_cell HT.out.t 5).trans rfl, (blk_cell HT.out.t 6).trans rfl, HX2.out⟩ (fun hHeld => ?_)
      clear hK K
      refine norm_ (a' := ?_) ?_ ?_
      rotate_left
      · show Act.put _ (some 28) _ = _
        simp only [Act.put, List.setIfInBounds_toArray, List.set_cons_zero, List.set_cons_succ, i64_w, i32_w]
        rfl
      refine done_ (done_of HT_.out (by kernel_rfl)) ?_
      clear hHeld
      cases b with
      | true =>
        have hf := HF2.out
        rw [if_pos rfl] at hf
        simp only [Option.some.injEq, Prod.mk.injEq] at hf
        rw [HZI.out] at hf
        obtain ⟨rfl, rfl⟩ := hf
        go_wp2
        go_ret2
        exact ⟨rfl, HB.out⟩
      | false =>
        have hf := HF2.out
        rw [if_neg Bool.false_ne_true] at hf
        have HF3 := Aside0.mk hf
        clear hf HF2
        go_wp2
        go_roundg q1
        case measure => omega
        case rel => exact ⟨zn + 1, by have h1 := HZI.out; have h2 := HW.out; first | (rw [h2]; congr 1; omega) | (congr 1; omega), ⟨by have := HZ.out; omega⟩, HF3, HT, HB⟩
def T11 : Bool × List (List Nat × List Nat) := (true, [([], []), ([], []), ([], []), ([2], [2]), ([3], [3]), ([4], [4]), ([5], [5]), ([0, 0], [0]), ([1, 7, 0, 1, 7], [1]), ([6, 8, 0, 1, 2, 3, 4, 5, 6, 7, 8], [6])])
def B11 : List Nat := [0, 0, 0, 4, 12, 28, 60, 1, 131, 511]
end Rt
def redlineref04_Classes.f (k : Nat) (l0 l1 : List ByteArray) (a2_0 a2_1 a2_2 a2_3 a2_4 a2_5 : Bool) : Option (List Int × List Int × Int) := if l0.length ≤ 5000000 ∧ l1.length ≤ 5000000 then (Rt.runr k a2_0 a2_1 a2_2 a2_3 a2_4 a2_5 [] l0).bind fun t => (Rt.runr k a2_0 a2_1 a2_2 a2_3 a2_4 a2_5 t.2 l1).bind fun u => some (t.1, u.1, (u.2.length : Int)) else none
end Go.Proofs.YtglffceopijogaaDoor.X
