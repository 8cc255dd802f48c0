import Derived.Test.YtglffceopijogaaDoorZBXx0
import Derived.Test.YtglffceopijogaaDoorZBXx48
namespace Go.Proofs.YtglffceopijogaaDoor.X
open Go.RowKit Go.Proofs.YtglffceopijogaaDoorW.PrintWords Go.Proofs.YtglffceopijogaaDoorW.PrintLast Go.Proofs.YtglffceopijogaaDoorW.PrintMore
attribute [local go_sem] max2_int min2_int max_two min_two max_three min_three max_four min_four   -- for this text's walks alone
open Go.Proofs.YtglffceopijogaaDoorW.HandWords
set_option linter.unusedVariables false
set_option linter.unusedSimpArgs false
namespace It
def ix : List ByteArray → ByteArray → Nat
  | [], _ => 0
  | k :: ks, s => if k = s then 0 else ix ks s + 1
def kin : List ByteArray → ByteArray → Bool
  | [], _ => false
  | k :: ks, s => decide (k = s) || kin ks s
theorem hk_iff : ∀ (ks : List ByteArray) (s : ByteArray), kin ks s = true ↔ s ∈ ks
  | [], s => by rw [kin]; simp
  | k :: ks, s => by
    rw [kin, Bool.or_eq_true, decide_eq_true_eq, hk_iff ks s, List.mem_cons]
    exact ⟨fun h => h.elim (fun h => .inl h.symm) .inr, fun h => h.elim (fun h => .inl h.symm) .inr⟩
theorem hk_app (ks l : List ByteArray) (s : ByteArray) : kin (ks ++ l) s = (kin ks s || kin l s) := by
  rw [Bool.eq_iff_iff, Bool.or_eq_true, hk_iff, hk_iff, hk_iff, List.mem_append]
def ixi (ks : List ByteArray) (s : ByteArray) : Int := if kin ks s = true then (ix ks s : Int) else 0
theorem ix_app : ∀ (ks l : List ByteArray) (s : ByteArray), s ∈ ks → ix (ks ++ l) s = ix ks s
  | [], l, s, h => by cases h
  | k :: ks, l, s, h => by
    rw [List.cons_append, ix, ix]
    by_cases e : k = s
    · rw [if_pos e, if_pos e]
    · rw [if_neg e, if_neg e, ix_app ks l s (by cases h with | head => exact absurd rfl e | tail _ h => exact h)]
theorem ix_new : ∀ (ks : List ByteArray) (s : ByteArray), s ∉ ks → ix (ks ++ [s]) s = ks.length
  | [], s, h => by rw [List.nil_append, ix, if_pos rfl]; rfl
  | k :: ks, s, h => by
    rw [List.cons_append, ix, if_neg (fun e => h (by rw [e]; exact List.mem_cons_self ..)), ix_new ks s (fun e => h (List.mem_cons_of_mem _ e)), List.length_cons]
def lk (s : ByteArray) : Lit := .string s.data.toList
theorem lk_inj {s t : ByteArray} (h : lk s = lk t) : s = t := by
  unfold lk at h
  injection h with h
  cases s; cases t
  congr
  exact Array.toList_inj.1 h
theorem lk_key (s : ByteArray) (hs : s.size ≤ maxLen) : keyOf Tryd.prog 9 (.string s) = some (lk s) := Go.WideMaps.keyOf_string_mk Tryd.underlying9 hs
theorem keyed : Go.Maps.Keyed Tryd.prog 9 := Go.Maps.string_keyed Tryd.underlying9
theorem i_zero (w : World) : (zeroValue 3).run Tryd.prog w = .ok (.int .i64 0) w := by kernel_rfl
def el (v : Value) : Option (DataW Value × List MemPlace) := some (.held v, [])
def MapI (W : World) (g : Nat) (ks : List ByteArray) : Prop := ∃ D : DataW Value, W.ownsMap Tryd.prog 9 el g ks.length D ∧ Go.Maps.size D = ks.length ∧ ∀ s, Go.Maps.has D (lk s) = kin ks s ∧ D.atKey (lk s) (.held (.int .i64 0)) = .held (.int .i64 (ixi ks s))
theorem MapI.made (W : World) : MapI (W.alloc (.map #[] 0)) W.heap.size [] := ⟨.map [], World.ownsMap_made _ _ _ _, rfl, fun s => ⟨rfl, rfl⟩⟩
theorem MapI.same {W W' : World} {g : Nat} {ks : List ByteArray} (h : MapI W g ks) (e : W'.heap[g]? = W.heap[g]?) : MapI W' g ks := by
  obtain ⟨D, ⟨es, clock, h2, h4⟩, h3⟩ := h
  exact ⟨D, ⟨es, clock, e.trans h2, h4⟩, h3⟩
theorem MapI.lt {W : World} {g : Nat} {ks : List ByteArray} (h : MapI W g ks) : g < W.heap.size := by
  obtain ⟨D, h2, h3⟩ := h
  exact h2.lt
theorem MapI.ne {W : World} {g k : Nat} {ks : List ByteArray} {cs : Array Value} {t : TypeId} {fr : Nat × Nat} (h : MapI W g ks) (hk : W.heap[k]? = some (.cells cs t fr)) : g ≠ k := by
  obtain ⟨D, ⟨es, clock, h2, h4⟩, h3⟩ := h
  rintro rfl
  rw [hk] at h2
  cases h2
theorem MapI.look {W : World} {g : Nat} {ks : List ByteArray} (h : MapI W g ks) (s : ByteArray) (hz : s.size ≤ maxLen) : (Instr.lookup 61 (.map (some g)) (.string s) true).run Tryd.prog W = .ok (.tuple #[.int .i64 (ixi ks s), .bool (kin ks s)]) W := by
  obtain ⟨D, h2, h3, h4⟩ := h
  obtain ⟨v, ps, hrun, hv⟩ := h2.look_ok keyed Tryd.underlying61 (i_zero W) (zd := .held (.int .i64 0)) (zp := []) rfl (lk_key s hz)
  rw [(h4 s).2] at hv
  simp only [el, Option.some.injEq, Prod.mk.injEq] at hv
  have e : v = .int .i64 (ixi ks s) := by have := hv.1; injection this
  rw [hrun, e, (h4 s).1]
theorem MapI.len {W : World} {g : Nat} {ks : List ByteArray} (h : MapI W g ks) (ty : TypeId) : (Builtin.len_ #[61] ty #[.map (some g)]).run Tryd.prog W = .ok (.int .i64 (ks.length : Int)) W := by
  obtain ⟨D, h2, h3, h4⟩ := h
  rw [h2.len Tryd.underlying61 ty, h3]
theorem MapI.put {W : World} {g : Nat} {ks : List ByteArray} (h : MapI W g ks) (hn : ks.length < maxLen) (s : ByteArray) (hz : s.size ≤ maxLen) (hs : kin ks s = false) :
    ∃ w', (Instr.mapUpdate 61 (.map (some g)) (.string s) (.int .i64 (ks.length : Int))).run Tryd.prog W = .ok () w' ∧ MapI w' g (ks ++ [s]) ∧ W.grownBy w' (some g) := by
  obtain ⟨D, h2, h3, h4⟩ := h
  obtain ⟨w', hrun, h5, h6⟩ := h2.store keyed Tryd.underlying61 hn (val := .int .i64 (ks.length : Int)) (d := .held (.int .i64 (ks.length : Int))) (ps := []) (lk_key s hz) rfl
  have hT := h2.tidy keyed
  have hno : Go.Maps.has D (lk s) = false := by rw [(h4 s).1, hs]
  refine ⟨w', hrun, ⟨D.put (lk s) (.held (.int .i64 (ks.length : Int))), by rw [List.length_append]; exact h5, by rw [Go.Maps.size_put hT, hno, if_neg Bool.false_ne_true, h3, List.length_append]; rfl, fun t => ?_⟩, h6.grown⟩
  have hns : s ∉ ks := fun h => by rw [(hk_iff ks s).2 h] at hs; cases hs
  by_cases e : t = s
  · subst e
    have h1 : kin (ks ++ [t]) t = true := (hk_iff _ _).2 (by simp)
    refine ⟨by rw [Go.Maps.has_put_same hT.isMap (by exact trivial), h1], ?_⟩
    rw [Go.Maps.atKey_put_same hT.isMap (by exact trivial)]
    unfold ixi
    rw [if_pos h1, ix_new ks t hns]
  · have hne : lk t ≠ lk s := fun h => e (lk_inj h)
    have h1 : kin [s] t = false := Bool.eq_false_iff.2 (fun h => e (by have := (hk_iff _ _).1 h; simpa using this))
    have h2 : kin (ks ++ [s]) t = kin ks t := by rw [hk_app, h1, Bool.or_false]
    refine ⟨by rw [Go.Maps.has_put_other hne, (h4 t).1, h2], ?_⟩
    rw [Go.Maps.atKey_put_other hne, (h4 t).2]
    unfold ixi
    rw [h2]
    by_cases hm : kin ks t = true
    · rw [if_pos hm, if_pos hm, ix_app ks [s] t ((hk_iff _ _).1 hm)]
    · rw [if_neg hm, if_neg hm]
structure Tb (gt gm : Nat) (o0 o1 o2 o3 o4 o5 : Bool) (w0 : World) (ks : List ByteArray) (W : World) : Prop where
  t : W.heap[gt]? = some (.cells #[.bool o0, .bool o1, .bool o2, .bool o3, .bool o4, .bool o5, .map (some gm)] 63 (0, 0))
  m : MapI W gm ks
  b : Below w0.heap.size w0 W
  g1 : w0.heap.size ≤ gt
  g2 : w0.heap.size ≤ gm
section
variable {gt gm : Nat} {o0 o1 o2 o3 o4 o5 : Bool} {w0 : World} {ks : List ByteArray} {W : World}
theorem Tb.below (h : Tb gt gm o0 o1 o2 o3 o4 o5 w0 ks W) {W' : World} (hb : Below W.heap.size W W') : Tb gt gm o0 o1 o2 o3 o4 o5 w0 ks W' :=
  ⟨blk_below h.t hb, h.m.same (hb.block gm h.m.lt), h.b.trans (hb.mono h.b.size), h.g1, h.g2⟩
theorem Tb.put (h : Tb gt gm o0 o1 o2 o3 o4 o5 w0 ks W) {W' : World} {ks' : List ByteArray} (hm : MapI W' gm ks') (hg : W.grownBy W' (some gm)) : Tb gt gm o0 o1 o2 o3 o4 o5 w0 ks' W' :=
  ⟨blk_grown h.t hg (fun e => h.m.ne h.t (Option.some.inj e).symm), hm, h.b.grown hg h.b.size (fun k hk => by injection hk with hk; subst hk; exact h.g2), h.g1, h.g2⟩
end
set_option maxHeartbeats 1000000 in
set_option maxRecDepth 100000 in
theorem new (o0 o1 o2 o3 o4 o5 : Bool) (w : World) :
    Calls Tryd.prog 19 #[.agg #[.bool o0, .bool o1, .bool o2, .bool o3, .bool o4, .bool o5]] w fun e w' => ∃ gt gm, e = .returned (.pointer (some ⟨gt, 0, none⟩)) ∧ Tb gt gm o0 o1 o2 o3 o4 o5 w [] w' := by
  have hmm := @run_makeMap Tryd.prog
  go_enter Tryd.func19, Tryd.ntmps19
  go_wp2
  go_ret
  obtain ⟨A, hA⟩ : ∃ A : Obj, Obj.cells #[.bool o0, .bool o1, .bool o2, .bool o3, .bool o4, .bool o5] 23 = A := ⟨_, rfl⟩
  have e1 : (w.alloc A).heap.size = w.heap.size + 1 := by simp
  have e2 : ((w.alloc A).alloc (.map #[] 0)).heap.size = w.heap.size + 1 + 1 := by simp
  have h1 := MapI.made (w.alloc A)
  rw [e1] at h1
  have h2 := blk_new ((w.alloc A).alloc (.map #[] 0)) (.cells #[.bool o0, .bool o1, .bool o2, .bool o3, .bool o4, .bool o5, .map (some (w.heap.size + 1))] 63)
  rw [e2] at h2
  rw [hA]
  exact ⟨w.heap.size + 1 + 1, w.heap.size + 1, rfl, h2, h1.same (Lib.alloc_old _ _ _ (by rw [e2]; omega)), (((Below.refl w.heap.size w).alloc (Nat.le_refl _) _).alloc (by rw [e1]; omega) _).alloc (by rw [e2]; omega) _, by omega, by omega⟩
def ad (ks : List ByteArray) (s : ByteArray) : List ByteArray := if kin ks s = true then ks else ks ++ [s]
set_option maxHeartbeats 2000000 in
set_option maxRecDepth 100000 in
theorem class_ (gt gm : Nat) (o0 o1 o2 o3 o4 o5 : Bool) (w0 : World) (ks : List ByteArray) (line key : ByteArray) (w : World) (h : Tb gt gm o0 o1 o2 o3 o4 o5 w0 ks w) (hc : canon_Canon.f line o0 o1 o2 o3 o4 o5 = some key) (hz : key.size ≤ 1000000000) (hn : ks.length < 1000000000) :
    Calls Tryd.prog 23 #[.pointer (some ⟨gt, 0, none⟩), .string line] w fun e w' => e = .returned (.int .i64 (ix (ad ks key) key : Int)) ∧ Tb gt gm o0 o1 o2 o3 o4 o5 w0 (ad ks key) w' ∧ ∃ w1, Below w.heap.size w w1 ∧ w1.grownBy w' (some gm) := by
  have HT := Aside0.mk h
  have HC := Aside0.mk hc
  have HZ := Aside0.mk hz
  have HN := Aside0.mk hn
  have c0 := (blk_cell h.t 0).trans (show _ = some (Value.bool o0) from rfl)
  have c1 := (blk_cell h.t 1).trans (show _ = some (Value.bool o1) from rfl)
  have c2 := (blk_cell h.t 2).trans (show _ = some (Value.bool o2) from rfl)
  have c3 := (blk_cell h.t 3).trans (show _ = some (Value.bool o3) from rfl)
  have c4 := (blk_cell h.t 4).trans (show _ = some (Value.bool o4) from rfl)
  have c5 := (blk_cell h.t 5).trans (show _ = some (Value.bool o5) from rfl)
  clear h hc hz hn
  go_enter Tryd.func23, Tryd.ntmps23
  go_upto_region 2 with (go_at_call 10; refine (canon_Canon.calls line o0 o1 o2 o3 o4 o5 key _ HC.out).mono ?_; rintro e w1 ⟨rfl, hb⟩; have n1_ := Aside0.mk (HT.out.below hb); have HB1 := Aside0.mk hb; clear HT HC hb c0 c1 c2 c3 c4 c5; have HT := n1_; clear n1_)
  have c6 := (blk_cell HT.out.t 6).trans (show _ = some (Value.map (some gm)) from rfl)
  have hlook := HT.out.m.look key (by have := HZ.out; unfold maxLen; omega)
  have hlen := HT.out.m.len
  by_cases hkk : kin ks key = true
  · have ead : ad ks key = ks := if_pos hkk
    have e1 : ixi ks key = (ix ks key : Int) := if_pos hkk
    rw [hkk, e1] at hlook
    have HE := Aside0.mk ead
    clear ead e1 hkk
    go_wp2
    go_ret
    rw [HE.out]
    exact ⟨rfl, HT.out, w1, HB1.out, ⟨rfl, rfl, rfl, Nat.le_refl _, fun _ _ _ => rfl⟩⟩
  · have hkf := Bool.eq_false_iff.2 hkk
    have ead : ad ks key = ks ++ [key] := if_neg hkk
    have e1 : ixi ks key = 0 := if_neg hkk
    have e2 : ix (ks ++ [key]) key = ks.length := ix_new ks key (fun h => hkk ((hk_iff ks key).2 h))
    rw [hkf, e1] at hlook
    obtain ⟨w2, hrun, hm2, hg2⟩ := HT.out.m.put (by have := HN.out; unfold maxLen; omega) key (by have := HZ.out; unfold maxLen; omega) hkf
    have HE := Aside0.mk ead
    have HE2 := Aside0.mk e2
    have HM2 := Aside0.mk hm2
    have HG2 := Aside0.mk hg2
    clear ead e1 e2 hkk hkf hm2 hg2
    go_wp2
    go_ret
    rw [HE.out, HE2.out]
    exact ⟨rfl, HT.out.put HM2.out HG2.out, w1, HB1.out, HG2.out⟩
def Fc (w w' : World) : Prop := ∀ (g : Nat) (cs : Array Value) (t : TypeId), w.heap[g]? = some (.cells cs t (0, 0)) → w'.heap[g]? = some (.cells cs t (0, 0))
def nm : List ByteArray → List ByteArray → List Int × List ByteArray
  | ks, [] => ([], ks)
  | ks, k :: r => ((ix (ad ks k) k : Int) :: (nm (ad ks k) r).1, (nm (ad ks k) r).2)
theorem ad_len (ks : List ByteArray) (k : ByteArray) : (ad ks k).length ≤ ks.length + 1 := by
  unfold ad
  split
  · omega
  · simp
def ky (o0 o1 o2 o3 o4 o5 : Bool) : List ByteArray → Option (List ByteArray)
  | [] => some []
  | s :: l => (canon_Canon.f s o0 o1 o2 o3 o4 o5).bind fun k => if k.size ≤ 1000000000 then (ky o0 o1 o2 o3 o4 o5 l).bind fun r => some (k :: r) else none
def T4i : Bool × List (List Nat × List Nat) := (true, [([], []), ([], []), ([], []), ([1, 2], [1, 2]), ([], []), ([4, 3], [4]), ([0, 5, 0], [0]), ([3, 6, 0, 1, 2, 3, 6], [3]), ([5, 7, 0, 1, 2, 3, 4, 5, 6, 7], [5])])
def B4i : List Nat := [0, 0, 0, 6, 0, 30, 63, 127, 255]
set_option maxHeartbeats 1000000 in
set_option maxRecDepth 100000 in
theorem size_ (gt gm : Nat) (o0 o1 o2 o3 o4 o5 : Bool) (w0 : World) (ks : List ByteArray) (w : World) (h : Tb gt gm o0 o1 o2 o3 o4 o5 w0 ks w) :
    Calls Tryd.prog 20 #[.pointer (some ⟨gt, 0, none⟩)] w fun e w' => e = .returned (.int .i64 (ks.length : Int)) ∧ w' = w := by
  have c6 := (blk_cell h.t 6).trans (show _ = some (Value.map (some gm)) from rfl)
  have hlen := h.m.len
  go_enter Tryd.func20, Tryd.ntmps20
  go_wp2
  go_ret
  exact ⟨rfl, rfl⟩
end It
def intern_Classes.f (l0 l1 : List ByteArray) (a2_0 a2_1 a2_2 a2_3 a2_4 a2_5 : Bool) : Option (List Int × List Int × Int) := if l0.length ≤ 5000000 ∧ l1.length ≤ 5000000 then (It.ky a2_0 a2_1 a2_2 a2_3 a2_4 a2_5 l0).bind fun K0 => (It.ky a2_0 a2_1 a2_2 a2_3 a2_4 a2_5 l1).bind fun K1 => some ((It.nm [] K0).1, (It.nm (It.nm [] K0).2 K1).1, ((It.nm (It.nm [] K0).2 K1).2.length : Int)) else none
end Go.Proofs.YtglffceopijogaaDoor.X
