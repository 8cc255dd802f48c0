import Derived.Test.YtglffceopijogaaDoorZPXx0
import Derived.Test.YtglffceopijogaaDoorZPXx48
namespace Go.Proofs.YtglffceopijogaaDoor.X
open Go.RowKit Go.Proofs.YtglffceopijogaaDoorW.PrintWords Go.Proofs.YtglffceopijogaaDoorW.PrintLast Go.Proofs.YtglffceopijogaaDoorW.PrintMore
attribute [local go_sem] max2_int min2_int max_two min_two max_three min_three max_four min_four   -- for this text's walks alone
open Go.Proofs.YtglffceopijogaaDoorW.HandWords
set_option linter.unusedVariables false
set_option linter.unusedSimpArgs false
namespace It
def ix : List ByteArray → ByteArray → Nat
  | [], _ => 0
  | k :: ks, s => if k = s then 0 else ix ks s + 1
def kin : List ByteArray → ByteArray → Bool
  | [], _ => false
  | k :: ks, s => decide (k = s) || kin ks s
theorem hk_iff : ∀ (ks : List ByteArray) (s : ByteArray), kin ks s = true ↔ s ∈ ks
  | [], s => by rw [kin]; simp
  | k :: ks, s => by
    rw [kin, Bool.or_eq_true, decide_eq_true_eq, hk_iff ks s, List.mem_cons]
    exact ⟨fun h => h.elim (fun h => .inl h.symm) .inr, fun h => h.elim (fun h => .inl h.symm) .inr⟩
theorem hk_app (ks l : List ByteArray) (s : ByteArray) : kin (ks ++ l) s = (kin ks s || kin l s) := by
  rw [Bool.eq_iff_iff, Bool.or_eq_true, hk_iff, hk_iff, hk_iff, List.mem_append]
def ixi (ks : List ByteArray) (s : ByteArray) : Int := if kin ks s = true then (ix ks s : Int) else 0
theorem ix_app : ∀ (ks l : List ByteArray) (s : ByteArray), s ∈ ks → ix (ks ++ l) s = ix ks s
  | [], l, s, h => by cases h
  | k :: ks, l, s, h => by
    rw [List.cons_append, ix, ix]
    by_cases e : k = s
    · rw [if_pos e, if_pos e]
    · rw [if_neg e, if_neg e, ix_app ks l s (by cases h with | head => exact absurd rfl e | tail _ h => exact h)]
theorem ix_new : ∀ (ks : List ByteArray) (s : ByteArray), s ∉ ks → ix (ks ++ [s]) s = ks.length
  | [], s, h => by rw [List.nil_append, ix, if_pos rfl]; rfl
  | k :: ks, s, h => by
    rw [List.cons_append, ix, if_neg (fun e => h (by rw [e]; exact List.mem_cons_self ..)), ix_new ks s (fun e => h (List.mem_cons_of_mem _ e)), List.length_cons]
theorem ix_lt : ∀ (ks : List ByteArray) (s : ByteArray), s ∈ ks → ix ks s < ks.length
  | [], s, h => by cases h
  | k :: ks, s, h => by
    rw [ix, List.length_cons]
    by_cases e : k = s
    · rw [if_pos e]; omega
    · rw [if_neg e]
      have := ix_lt ks s (by cases h with | head => exact absurd rfl e | tail _ h => exact h)
      omega
def lk (s : ByteArray) : Lit := .string s.data.toList
theorem lk_inj {s t : ByteArray} (h : lk s = lk t) : s = t := by
  unfold lk at h
  injection h with h
  cases s; cases t
  congr
  exact Array.toList_inj.1 h
theorem lk_key (s : ByteArray) (hs : s.size ≤ maxLen) : keyOf Tryd.prog 9 (.string s) = some (lk s) := Go.WideMaps.keyOf_string_mk Tryd.underlying9 hs
theorem keyed : Go.Maps.Keyed Tryd.prog 9 := Go.Maps.string_keyed Tryd.underlying9
theorem i_zero (w : World) : (zeroValue 3).run Tryd.prog w = .ok (.int .i64 0) w := by kernel_rfl
def el (v : Value) : Option (DataW Value × List MemPlace) := some (.held v, [])
def MapI (W : World) (g : Nat) (ks : List ByteArray) : Prop := ∃ D : DataW Value, W.ownsMap Tryd.prog 9 el g ks.length D ∧ Go.Maps.size D = ks.length ∧ ∀ s, Go.Maps.has D (lk s) = kin ks s ∧ D.atKey (lk s) (.held (.int .i64 0)) = .held (.int .i64 (ixi ks s))
theorem MapI.made (W : World) : MapI (W.alloc (.map #[] 0)) W.heap.size [] := ⟨.map [], World.ownsMap_made _ _ _ _, rfl, fun s => ⟨rfl, rfl⟩⟩
theorem MapI.same {W W' : World} {g : Nat} {ks : List ByteArray} (h : MapI W g ks) (e : W'.heap[g]? = W.heap[g]?) : MapI W' g ks := by
  obtain ⟨D, ⟨es, clock, h2, h4⟩, h3⟩ := h
  exact ⟨D, ⟨es, clock, e.trans h2, h4⟩, h3⟩
theorem MapI.lt {W : World} {g : Nat} {ks : List ByteArray} (h : MapI W g ks) : g < W.heap.size := by
  obtain ⟨D, h2, h3⟩ := h
  exact h2.lt
theorem MapI.ne {W : World} {g k : Nat} {ks : List ByteArray} {cs : Array Value} {t : TypeId} {fr : Nat × Nat} (h : MapI W g ks) (hk : W.heap[k]? = some (.cells cs t fr)) : g ≠ k := by
  obtain ⟨D, ⟨es, clock, h2, h4⟩, h3⟩ := h
  rintro rfl
  rw [hk] at h2
  cases h2
theorem MapI.look {W : World} {g : Nat} {ks : List ByteArray} (h : MapI W g ks) (s : ByteArray) (hz : s.size ≤ maxLen) : (Instr.lookup 61 (.map (some g)) (.string s) true).run Tryd.prog W = .ok (.tuple #[.int .i64 (ixi ks s), .bool (kin ks s)]) W := by
  obtain ⟨D, h2, h3, h4⟩ := h
  obtain ⟨v, ps, hrun, hv⟩ := h2.look_ok keyed Tryd.underlying61 (i_zero W) (zd := .held (.int .i64 0)) (zp := []) rfl (lk_key s hz)
  rw [(h4 s).2] at hv
  simp only [el, Option.some.injEq, Prod.mk.injEq] at hv
  have e : v = .int .i64 (ixi ks s) := by have := hv.1; injection this
  rw [hrun, e, (h4 s).1]
theorem MapI.len {W : World} {g : Nat} {ks : List ByteArray} (h : MapI W g ks) (ty : TypeId) : (Builtin.len_ #[61] ty #[.map (some g)]).run Tryd.prog W = .ok (.int .i64 (ks.length : Int)) W := by
  obtain ⟨D, h2, h3, h4⟩ := h
  rw [h2.len Tryd.underlying61 ty, h3]
theorem MapI.put {W : World} {g : Nat} {ks : List ByteArray} (h : MapI W g ks) (hn : ks.length < maxLen) (s : ByteArray) (hz : s.size ≤ maxLen) (hs : kin ks s = false) :
    ∃ w', (Instr.mapUpdate 61 (.map (some g)) (.string s) (.int .i64 (ks.length : Int))).run Tryd.prog W = .ok () w' ∧ MapI w' g (ks ++ [s]) ∧ W.grownBy w' (some g) := by
  obtain ⟨D, h2, h3, h4⟩ := h
  obtain ⟨w', hrun, h5, h6⟩ := h2.store keyed Tryd.underlying61 hn (val := .int .i64 (ks.length : Int)) (d := .held (.int .i64 (ks.length : Int))) (ps := []) (lk_key s hz) rfl
  have hT := h2.tidy keyed
  have hno : Go.Maps.has D (lk s) = false := by rw [(h4 s).1, hs]
  refine ⟨w', hrun, ⟨D.put (lk s) (.held (.int .i64 (ks.length : Int))), by rw [List.length_append]; exact h5, by rw [Go.Maps.size_put hT, hno, if_neg Bool.false_ne_true, h3, List.length_append]; rfl, fun t => ?_⟩, h6.grown⟩
  have hns : s ∉ ks := fun h => by rw [(hk_iff ks s).2 h] at hs; cases hs
  by_cases e : t = s
  · subst e
    have h1 : kin (ks ++ [t]) t = true := (hk_iff _ _).2 (by simp)
    refine ⟨by rw [Go.Maps.has_put_same hT.isMap (by exact trivial), h1], ?_⟩
    rw [Go.Maps.atKey_put_same hT.isMap (by exact trivial)]
    unfold ixi
    rw [if_pos h1, ix_new ks t hns]
  · have hne : lk t ≠ lk s := fun h => e (lk_inj h)
    have h1 : kin [s] t = false := Bool.eq_false_iff.2 (fun h => e (by have := (hk_iff _ _).1 h; simpa using this))
    have h2 : kin (ks ++ [s]) t = kin ks t := by rw [hk_app, h1, Bool.or_false]
    refine ⟨by rw [Go.Maps.has_put_other hne, (h4 t).1, h2], ?_⟩
    rw [Go.Maps.atKey_put_other hne, (h4 t).2]
    unfold ixi
    rw [h2]
    by_cases hm : kin ks t = true
    · rw [if_pos hm, if_pos hm, ix_app ks [s] t ((hk_iff _ _).1 hm)]
    · rw [if_neg hm, if_neg hm]
structure Tb (gt gm : Nat) (o0 o1 o2 o3 o4 o5 : Bool) (w0 : World) (ks : List ByteArray) (W : World) : Prop where
  t : W.heap[gt]? = some (.cells #[.bool o0, .bool o1, .bool o2, .bool o3, .bool o4, .bool o5, .map (some gm)] 63 (0, 0))
  m : MapI W gm ks
  b : Below w0.heap.size w0 W
  g1 : w0.heap.size ≤ gt
  g2 : w0.heap.size ≤ gm
section
variable {gt gm : Nat} {o0 o1 o2 o3 o4 o5 : Bool} {w0 : World} {ks : List ByteArray} {W : World}
theorem Tb.below (h : Tb gt gm o0 o1 o2 o3 o4 o5 w0 ks W) {W' : World} (hb : Below W.heap.size W W') : Tb gt gm o0 o1 o2 o3 o4 o5 w0 ks W' :=
  ⟨blk_below h.t hb, h.m.same (hb.block gm h.m.lt), h.b.trans (hb.mono h.b.size), h.g1, h.g2⟩
theorem Tb.put (h : Tb gt gm o0 o1 o2 o3 o4 o5 w0 ks W) {W' : World} {ks' : List ByteArray} (hm : MapI W' gm ks') (hg : W.grownBy W' (some gm)) : Tb gt gm o0 o1 o2 o3 o4 o5 w0 ks' W' :=
  ⟨blk_grown h.t hg (fun e => h.m.ne h.t (Option.some.inj e).symm), hm, h.b.grown hg h.b.size (fun k hk => by injection hk with hk; subst hk; exact h.g2), h.g1, h.g2⟩
end
set_option maxHeartbeats 1000000 in
set_option maxRecDepth 100000 in
theorem new (o0 o1 o2 o3 o4 o5 : Bool) (w : World) :
    Calls Tryd.prog 19 #[.agg #[.bool o0, .bool o1, .bool o2, .bool o3, .bool o4, .bool o5]] w fun e w' => ∃ gt gm, e = .returned (.pointer (some ⟨gt, 0, none⟩)) ∧ Tb gt gm o0 o1 o2 o3 o4 o5 w [] w' := by
  have hmm := @run_makeMap Tryd.prog
  go_enter Tryd.func19, Tryd.ntmps19
  go_wp2
  go_ret
  obtain ⟨A, hA⟩ : ∃ A : Obj, Obj.cells #[.bool o0, .bool o1, .bool o2, .bool o3, .bool o4, .bool o5] 23 = A := ⟨_, rfl⟩
  have e1 : (w.alloc A).heap.size = w.heap.size + 1 := by simp
  have e2 : ((w.alloc A).alloc (.map #[] 0)).heap.size = w.heap.size + 1 + 1 := by simp
  have h1 := MapI.made (w.alloc A)
  rw [e1] at h1
  have h2 := blk_new ((w.alloc A).alloc (.map #[] 0)) (.cells #[.bool o0, .bool o1, .bool o2, .bool o3, .bool o4, .bool o5, .map (some (w.heap.size + 1))] 63)
  rw [e2] at h2
  rw [hA]
  exact ⟨w.heap.size + 1 + 1, w.heap.size + 1, rfl, h2, h1.same (Lib.alloc_old _ _ _ (by rw [e2]; omega)), (((Below.refl w.heap.size w).alloc (Nat.le_refl _) _).alloc (by rw [e1]; omega) _).alloc (by rw [e2]; omega) _, by omega, by omega⟩
def ad (ks : List ByteArray) (s : ByteArray) : List ByteArray := if kin ks s = true then ks else ks ++ [s]
set_option maxHeartbeats 2000000 in
set_option maxRecDepth 100000 in
theorem class_ (gt gm : Nat) (o0 o1 o2 o3 o4 o5 : Bool) (w0 : World) (ks : List ByteArray) (line key : ByteArray) (w : World) (h : Tb gt gm o0 o1 o2 o3 o4 o5 w0 ks w) (hc : canon_Canon.f line o0 o1 o2 o3 o4 o5 = some key) (hz : key.size ≤ 1000000000) (hn : ks.length < 1000000000) :
    Calls Tryd.prog 23 #[.pointer (some ⟨gt, 0, none⟩), .string line] w fun e w' => e = .returned (.int .i64 (ix (ad ks key) key : Int)) ∧ Tb gt gm o0 o1 o2 o3 o4 o5 w0 (ad ks key) w' ∧ ∃ w1, Below w.heap.size w w1 ∧ w1.grownBy w' (some gm) := by
  have HT := Aside0.mk h
  have HC := Aside0.mk hc
  have HZ := Aside0.mk hz
  have HN := Aside0.mk hn
  have c0 := (blk_cell h.t 0).trans (show _ = some (Value.bool o0) from rfl)
  have c1 := (blk_cell h.t 1).trans (show _ = some (Value.bool o1) from rfl)
  have c2 := (blk_cell h.t 2).trans (show _ = some (Value.bool o2) from rfl)
  have c3 := (blk_cell h.t 3).trans (show _ = some (Value.bool o3) from rfl)
  have c4 := (blk_cell h.t 4).trans (show _ = some (Value.bool o4) from rfl)
  have c5 := (blk_cell h.t 5).trans (show _ = some (Value.bool o5) from rfl)
  clear h hc hz hn
  go_enter Tryd.func23, Tryd.ntmps23
  go_upto_region 2 with (go_at_call 10; refine (canon_Canon.calls line o0 o1 o2 o3 o4 o5 key _ HC.out).mono ?_; rintro e w1 ⟨rfl, hb⟩; have n1_ := Aside0.mk (HT.out.below hb); have HB1 := Aside0.mk hb; clear HT HC hb c0 c1 c2 c3 c4 c5; have HT := n1_; clear n1_)
  have c6 := (blk_cell HT.out.t 6).trans (show _ = some (Value.map (some gm)) from rfl)
  have hlook := HT.out.m.look key (by have := HZ.out; unfold maxLen; omega)
  have hlen := HT.out.m.len
  by_cases hkk : kin ks key = true
  · have ead : ad ks key = ks := if_pos hkk
    have e1 : ixi ks key = (ix ks key : Int) := if_pos hkk
    rw [hkk, e1] at hlook
    have HE := Aside0.mk ead
    clear ead e1 hkk
    go_wp2
    go_ret
    rw [HE.out]
    exact ⟨rfl, HT.out, w1, HB1.out, ⟨rfl, rfl, rfl, Nat.le_refl _, fun _ _ _ => rfl⟩⟩
  · have hkf := Bool.eq_false_iff.2 hkk
    have ead : ad ks key = ks ++ [key] := if_neg hkk
    have e1 : ixi ks key = 0 := if_neg hkk
    have e2 : ix (ks ++ [key]) key = ks.length := ix_new ks key (fun h => hkk ((hk_iff ks key).2 h))
    rw [hkf, e1] at hlook
    obtain ⟨w2, hrun, hm2, hg2⟩ := HT.out.m.put (by have := HN.out; unfold maxLen; omega) key (by have := HZ.out; unfold maxLen; omega) hkf
    have HE := Aside0.mk ead
    have HE2 := Aside0.mk e2
    have HM2 := Aside0.mk hm2
    have HG2 := Aside0.mk hg2
    clear ead e1 e2 hkk hkf hm2 hg2
    go_wp2
    go_ret
    rw [HE.out, HE2.out]
    exact ⟨rfl, HT.out.put HM2.out HG2.out, w1, HB1.out, HG2.out⟩
theorem Tb.grow {gt gm : Nat} {o0 o1 o2 o3 o4 o5 : Bool} {w0 : World} {ks : List ByteArray} {W : World} (h : Tb gt gm o0 o1 o2 o3 o4 o5 w0 ks W) {w1 : World} {v : Value} {xs : List Int} {base : Nat} {ok : Nat → Prop} (hR : Kd.R (Kd.int .i64) 3 W base ok v xs) (hg : W.grownBy w1 v.ownBlock) (hb : Below w0.heap.size w0 w1) : Tb gt gm o0 o1 o2 o3 o4 o5 w0 ks w1 :=
  ⟨blk_grown h.t hg (Kd.R_ne hR h.t (by decide)), h.m.same (hg.block gm h.m.lt (fun e => by obtain ⟨cells, hc⟩ := Kd.R_typed hR gm e.symm; exact h.m.ne hc rfl)), hb, h.g1, h.g2⟩
theorem row_over {gt gm : Nat} {o0 o1 o2 o3 o4 o5 : Bool} {w0 : World} {ks : List ByteArray} {W w1 w2 : World} {v : Value} {xs : List Int} {base : Nat} {ok : Nat → Prop} (h : Tb gt gm o0 o1 o2 o3 o4 o5 w0 ks W) (hR : Kd.R (Kd.int .i64) 3 W base ok v xs) (hb : Below W.heap.size W w1) (hg : w1.grownBy w2 (some gm)) : Kd.R (Kd.int .i64) 3 w2 base ok v xs := by
  have h1 := Kd.R_below hR hb
  refine Kd.R_grown1 h1 rfl hg (fun e => ?_)
  obtain ⟨cells, hc⟩ := Kd.R_typed h1 gm e.symm
  exact (h.below hb).m.ne hc rfl
def Fc (w w' : World) : Prop := ∀ (g : Nat) (cs : Array Value) (t : TypeId), w.heap[g]? = some (.cells cs t (0, 0)) → w'.heap[g]? = some (.cells cs t (0, 0))
def nm : List ByteArray → List ByteArray → List Int × List ByteArray
  | ks, [] => ([], ks)
  | ks, k :: r => ((ix (ad ks k) k : Int) :: (nm (ad ks k) r).1, (nm (ad ks k) r).2)
theorem ad_len (ks : List ByteArray) (k : ByteArray) : (ad ks k).length ≤ ks.length + 1 := by
  unfold ad
  split
  · omega
  · simp
theorem nm_len : ∀ (K ks : List ByteArray), (nm ks K).1.length = K.length ∧ (nm ks K).2.length ≤ ks.length + K.length
  | [], ks => ⟨rfl, by rw [nm]; simp⟩
  | k :: r, ks => by
    have h := nm_len r (ad ks k)
    have h2 := ad_len ks k
    rw [nm, List.length_cons, List.length_cons]
    refine ⟨by rw [h.1], ?_⟩
    show (nm (ad ks k) r).2.length ≤ _
    have := h.2
    omega
set_option maxHeartbeats 4000000 in
set_option maxRecDepth 100000 in
theorem numbers (gt gm gb : Nat) (o0 o1 o2 o3 o4 o5 : Bool) (w0 : World) (ks : List ByteArray) (A1 : Option Addr) (c1 : Nat) (l K : List ByteArray) (w : World) (h : Tb gt gm o0 o1 o2 o3 o4 o5 w0 ks w) (hbx : w.heap[gb]? = some (.cells #[.pointer (some ⟨gt, 0, none⟩)] 32 (0, 0)))
    (hr : Kd.C Kd.string w0 A1 l.length l) (hl : l.length ≤ 10000000) (hks : ks.length ≤ 10000000) (hK : K.length = l.length) (hk : ∀ (i : Nat) (s : ByteArray), l[i]? = some s → ∃ k, K[i]? = some k ∧ canon_Canon.f s o0 o1 o2 o3 o4 o5 = some k ∧ k.size ≤ 1000000000) :
    Calls Tryd.prog 39 #[.slice A1 l.length c1, .pointer (some ⟨gb, 0, none⟩)] w fun e w' => ∃ v, e = .returned v ∧ Tb gt gm o0 o1 o2 o3 o4 o5 w0 (nm ks K).2 w' ∧ Kd.R (Kd.int .i64) 3 w' w0.heap.size (fun k => w.heap.size ≤ k) v (nm ks K).1 ∧ w.heap.size ≤ w'.heap.size ∧ Fc w w' := by
  have HT := Aside0.mk h
  have HX := Aside0.mk hbx
  have HR1 := Aside0.mk hr
  have HL := Aside0.mk hl
  have HKS := Aside0.mk hks
  have HKL := Aside0.mk hK
  have HKK := Aside0.mk hk
  have HSZ := Aside0.mk (Nat.le_refl w.heap.size)
  have HF : Aside0 (Fc w w) := ⟨fun _ _ _ h => h⟩
  clear h hbx hr hl hks hK hk
  go_enter Tryd.func39, Tryd.ntmps39
  go_wp2
  go_loopg [4, 9] l.length (fun q v4 v9 w' => ∃ (z : Int) (acc : List Int) (ks1 : List ByteArray), v9 = .int .i64 z ∧ 0 ≤ z ∧ z ≤ 10000000 ∧ Aside0 (z + (q : Int) = l.length ∧ acc.length = z.toNat ∧ ks1.length ≤ 10000000 + z.toNat) ∧ Aside0 (acc ++ (nm ks1 (K.drop z.toNat)).1 = (nm ks K).1 ∧ (nm ks1 (K.drop z.toNat)).2 = (nm ks K).2) ∧ Aside0 (Tb gt gm o0 o1 o2 o3 o4 o5 w0 ks1 w') ∧ Aside0 (w'.heap[gb]? = some (.cells #[.pointer (some ⟨gt, 0, none⟩)] 32 (0, 0))) ∧ Aside0 (Kd.R (Kd.int .i64) 3 w' w0.heap.size (fun k => w.heap.size ≤ k) v4 acc) ∧ Aside0 (w.heap.size ≤ w'.heap.size) ∧ Aside0 (Fc w w'))
  case atStart => exact ⟨0, [], ks, rfl, by omega, by omega, ⟨by omega, rfl, by have := HKS.out; omega⟩, ⟨by simp, rfl⟩, HT, HX, ⟨Kd.R_nil _ _ _ _ _⟩, HSZ, HF⟩
  case round =>
    clear HT HX HSZ HF
    obtain ⟨z, acc, ks1, rfl, hz1, hz2, HZ, HE, HT, HX, HO, HSZ, HF⟩ := hrel
    cases gk with
    | zero =>
      have hzl : z = (l.length : Int) := by have := HZ.out; omega
      subst hzl
      have hp : ((l.length : Int) < (l.length : Int)) = False := eq_false (Int.lt_irrefl _)
      have h := HE.out
      rw [Int.toNat_natCast, List.drop_eq_nil_of_le (by have := HKL.out; omega), nm, List.append_nil] at h
      have HE2 := Aside0.mk h
      clear h
      go_wp2
      go_ret
      rw [← HE2.out.1, ← HE2.out.2]
      exact ⟨_, rfl, HT.out, HO.out, HSZ.out, HF.out⟩
    | succ q1 =>
      have hzl : decide (z < (l.length : Int)) = true := decide_eq_true (by have := HZ.out; omega)
      have hz3 := of_decide_eq_true hzl
      have hzn : z.toNat < l.length := by omega
      obtain ⟨ad0, ea0, hx0⟩ := Kd.at_string HR1.out z hz1 hz3
      cases ea0
      have hxs := (HT.out.b.cell (World.block_lt_of_cell? w0 _ hx0)).trans hx0
      obtain ⟨s, hs⟩ : ∃ s, rdOf ByteArray.empty l z = s := ⟨_, rfl⟩
      rw [hs] at hxs
      have hsl : l[z.toNat]? = some s := by
        rw [← hs, List.getElem?_eq_getElem hzn]
        simp [rdOf, List.getD_eq_getElem?_getD, hzn]
      obtain ⟨k, hk1, hk2, hk3⟩ := HKK.out _ s hsl
      have hd : K.drop z.toNat = k :: K.drop (z + 1).toNat := by
        have hkn : z.toNat < K.length := by have := HKL.out; omega
        rw [show (z + 1).toNat = z.toNat + 1 by omega, List.drop_eq_getElem_cons hkn]
        rw [List.getElem?_eq_getElem hkn] at hk1
        injection hk1 with hk1
        rw [hk1]
      have he := HE.out
      rw [hd, nm] at he
      have HE2 : Aside0 ((acc ++ [(ix (ad ks1 k) k : Int)]) ++ (nm (ad ks1 k) (K.drop (z + 1).toNat)).1 = (nm ks K).1 ∧ (nm (ad ks1 k) (K.drop (z + 1).toNat)).2 = (nm ks K).2) := ⟨by rw [List.append_assoc]; exact he.1, he.2⟩
      have hlen2 : (ad ks1 k).length ≤ 10000000 + (z + 1).toNat := by have h1 := ad_len ks1 k; have := HZ.out; omega
      have HL2 := Aside0.mk hlen2
      have HC := Aside0.mk hk2
      have HCZ := Aside0.mk hk3
      have b0 := (blk_cell HX.out 0).trans (show _ = some (Value.pointer (some ⟨gt, 0, none⟩)) from rfl)
      have p1 := eq_true hz1
      have p2 := eq_true hz3
      have hw : wrap64 (z + 1) = z + 1 := by unfold wrap64; omega
      have HW := Aside0.mk hw
      obtain ⟨ks2, hks2⟩ : ∃ ks2, ad ks1 k = ks2 := ⟨_, rfl⟩
      obtain ⟨ni, hni⟩ : ∃ ni : Int, (ix ks2 k : Int) = ni := ⟨_, rfl⟩
      rw [hks2] at HE2 HL2
      rw [hni] at HE2
      have HKS2 := Aside0.mk hks2
      have HNI := Aside0.mk hni
      clear hx0 hs hsl hk1 hk2 hk3 hd he hlen2 hw hks2 hni HE
      go_wp2_with (first | (go_at_call 23; refine (class_ gt gm o0 o1 o2 o3 o4 o5 w0 ks1 s k _ HT.out HC.out HCZ.out (by have := HZ.out; have := HL.out; omega)).mono ?_; rintro e w5 ⟨rfl, ht, w6, hb6, hg6⟩; rw [HKS2.out] at ht ⊢; rw [HNI.out]; have n1_ := Aside0.mk ht; have n2_ := Aside0.mk (row_over HT.out HO.out hb6 hg6); have n3_ := Aside0.mk (blk_grown (blk_below HX.out hb6) hg6 (fun e_ => by injection e_ with e_; exact (HT.out.below hb6).m.ne (blk_below HX.out hb6) e_.symm)); have n4_ := Aside0.mk (Nat.le_trans HSZ.out (Nat.le_trans hb6.size hg6.size)); have n5_ : Aside0 (Fc w w5) := ⟨fun g cs t h => blk_grown (blk_below (HF.out g cs t h) hb6) hg6 (fun e_ => by injection e_ with e_; exact (HT.out.below hb6).m.ne (blk_below (HF.out g cs t h) hb6) e_.symm)⟩; clear HT HO HX HSZ HF ht hb6 hg6 b0 hxs; have HT := n1_; have HO := n2_; have HX := n3_; have HSZ := n4_; have HF := n5_; clear n1_ n2_ n3_ n4_ n5_) | ((with_reducible refine gate_builtin (b := .append) (xs := #[.tmp 13, .tmp 17]) rfl ?_); at_builtin; refine Kd.R_append (Kd.int .i64) (w0 := w0) w0.heap.size rfl (.tmp 13) (.tmp 17) 42 3 (.int .i64 0) 8 rfl Tryd.underlying42 (by kernel_rfl) rfl (by decide) (by omega) u4 acc ni [.int .i64 ni] (fun k => w.heap.size ≤ k) (fun _ => False) rfl rfl ?aP (fun _ hk => hk.elim) ?aF ?aO ?aB ?aS ?aL ?_; (case aP => exact rfl); (case aB => exact HT.out.b); (case aF => exact (fun k hk => Nat.le_trans HSZ.out hk)); (case aO => exact HO.out); (case aS => exact HT.out.b.size); (case aL => have := HZ.out; have := HL.out; omega); intro v7 w7 ho hb hg hat; have n1_ := Aside0.mk (HT.out.grow HO.out hg hb); have n3_ := Aside0.mk (blk_grown HX.out hg (Kd.R_ne HO.out HX.out (by decide))); have n4_ := Aside0.mk (Nat.le_trans HSZ.out hg.size); have n5_ : Aside0 (Fc w w7) := ⟨fun g cs t h => blk_grown (HF.out g cs t h) hg (fun e_ => by have h1 := HO.out.1 g e_.symm; have h2 := blk_lt h; omega)⟩; have n2_ := Aside0.mk ho; clear HT HO HX HSZ HF ho hb hg hat; have HT := n1_; have HO := n2_; have HX := n3_; have HSZ := n4_; have HF := n5_; clear n1_ n2_ n3_ n4_ n5_))
      go_roundg q1
      case measure => omega
      case rel => exact ⟨z + 1, _, ks2, by go_num, by omega, by have := HZ.out; have := HL.out; omega, ⟨by have := HZ.out; omega, by have := HZ.out; simp; omega, HL2.out⟩, HE2, HT, HX, HO, HSZ, HF⟩
theorem row_fc {W W' : World} {base : Nat} {ok : Nat → Prop} {v : Value} {xs : List Int} (hR : Kd.R (Kd.int .i64) 3 W base ok v xs) (hf : Fc W W') : Kd.R (Kd.int .i64) 3 W' base ok v xs :=
  Kd.R_of_own (own_move (Kd.own_of_R hR) (fun k hk => by obtain ⟨cells, hc⟩ := Kd.R_typed hR k hk; exact (hf k cells _ hc).trans hc.symm)) hR.1
def ky (o0 o1 o2 o3 o4 o5 : Bool) : List ByteArray → Option (List ByteArray)
  | [] => some []
  | s :: l => (canon_Canon.f s o0 o1 o2 o3 o4 o5).bind fun k => if k.size ≤ 1000000000 then (ky o0 o1 o2 o3 o4 o5 l).bind fun r => some (k :: r) else none
theorem ky_get {o0 o1 o2 o3 o4 o5 : Bool} : ∀ (l K : List ByteArray), ky o0 o1 o2 o3 o4 o5 l = some K → K.length = l.length ∧ ∀ (i : Nat) (s : ByteArray), l[i]? = some s → ∃ k, K[i]? = some k ∧ canon_Canon.f s o0 o1 o2 o3 o4 o5 = some k ∧ k.size ≤ 1000000000
  | [], K, h => by
    rw [ky] at h
    cases h
    exact ⟨rfl, fun i s h => by simp at h⟩
  | s :: l, K, h => by
    rw [ky] at h
    obtain ⟨k, hk, h⟩ := Option.bind_eq_some_iff.mp h
    by_cases hz : k.size ≤ 1000000000
    case neg => rw [if_neg hz] at h; cases h
    rw [if_pos hz] at h
    obtain ⟨r, hr, h⟩ := Option.bind_eq_some_iff.mp h
    cases h
    obtain ⟨h1, h2⟩ := ky_get l r hr
    refine ⟨by rw [List.length_cons, List.length_cons, h1], fun i t ht => ?_⟩
    match i with
    | 0 =>
      simp only [List.getElem?_cons_zero, Option.some.injEq] at ht ⊢
      subst ht
      exact ⟨k, rfl, hk, hz⟩
    | i + 1 =>
      simp only [List.getElem?_cons_succ] at ht ⊢
      exact h2 i t ht
def T4i : Bool × List (List Nat × List Nat) := (true, [([], []), ([], []), ([], []), ([1, 2], [1, 2]), ([], []), ([4, 3], [4]), ([0, 5, 0], [0]), ([3, 6, 0, 1, 2, 3, 6], [3]), ([5, 7, 0, 1, 2, 3, 4, 5, 6, 7], [5])])
def B4i : List Nat := [0, 0, 0, 6, 0, 30, 63, 127, 255]
theorem tab4i : rtab .any (opsOf Tryd.f25 4) = T4i := by kernel_rfl
theorem bits4i : waitsOk T4i.2 B4i = true := by kernel_rfl
set_option maxHeartbeats 1000000 in
set_option maxRecDepth 100000 in
theorem size_ (gt gm : Nat) (o0 o1 o2 o3 o4 o5 : Bool) (w0 : World) (ks : List ByteArray) (w : World) (h : Tb gt gm o0 o1 o2 o3 o4 o5 w0 ks w) :
    Calls Tryd.prog 20 #[.pointer (some ⟨gt, 0, none⟩)] w fun e w' => e = .returned (.int .i64 (ks.length : Int)) ∧ w' = w := by
  have c6 := (blk_cell h.t 6).trans (show _ = some (Value.map (some gm)) from rfl)
  have hlen := h.m.len
  go_enter Tryd.func20, Tryd.ntmps20
  go_wp2
  go_ret
  exact ⟨rfl, rfl⟩
end It
def intern_Classes.f (l0 l1 : List ByteArray) (a2_0 a2_1 a2_2 a2_3 a2_4 a2_5 : Bool) : Option (List Int × List Int × Int) := if l0.length ≤ 5000000 ∧ l1.length ≤ 5000000 then (It.ky a2_0 a2_1 a2_2 a2_3 a2_4 a2_5 l0).bind fun K0 => (It.ky a2_0 a2_1 a2_2 a2_3 a2_4 a2_5 l1).bind fun K1 => some ((It.nm [] K0).1, (It.nm (It.nm [] K0).2 K1).1, ((It.nm (It.nm [] K0).2 K1).2.length : Int)) else none
set_option maxHeartbeats 4000000 in
set_option maxRecDepth 100000 in
theorem intern_Classes.calls (A0 : Option Addr) (c0 : Nat) (l0 : List ByteArray) (A1 : Option Addr) (c1 : Nat) (l1 : List ByteArray) (a2_0 a2_1 a2_2 a2_3 a2_4 a2_5 : Bool) (r1 r2 : List Int) (r3 : Int) (w : World) (hr0 : Kd.C Kd.string w A0 l0.length l0) (hc0 : l0.length ≤ c0) (hr1 : Kd.C Kd.string w A1 l1.length l1) (hc1 : l1.length ≤ c1) (h : intern_Classes.f l0 l1 a2_0 a2_1 a2_2 a2_3 a2_4 a2_5 = some (r1, r2, r3)) :
    Calls Tryd.prog 25 #[.slice A0 l0.length c0, .slice A1 l1.length c1, .agg #[.bool a2_0, .bool a2_1, .bool a2_2, .bool a2_3, .bool a2_4, .bool a2_5]] w fun e w' => ∃ v0_ v1_ : Value, e = .returned (.tuple #[v0_, v1_, .int .i64 r3]) ∧ Kd.R (Kd.int .i64) 3 w' w.heap.size (fun k_ => some k_ ≠ (v1_ : Value).ownBlock) v0_ r1 ∧ Kd.R (Kd.int .i64) 3 w' w.heap.size (fun k_ => some k_ ≠ (v0_ : Value).ownBlock) v1_ r2 ∧ Below w.heap.size w w' := by
  unfold intern_Classes.f at h
  by_cases hl : l0.length ≤ 5000000 ∧ l1.length ≤ 5000000
  case neg => rw [if_neg hl] at h; cases h
  rw [if_pos hl] at h
  obtain ⟨K0, hK0, h⟩ := Option.bind_eq_some_iff.mp h
  obtain ⟨K1, hK1, h⟩ := Option.bind_eq_some_iff.mp h
  simp only [Option.some.injEq, Prod.mk.injEq] at h
  obtain ⟨e1, e2, e3⟩ := h
  obtain ⟨f1, f2⟩ := It.ky_get l0 K0 hK0
  obtain ⟨g1, g2⟩ := It.ky_get l1 K1 hK1
  have hn := (It.nm_len K0 []).2
  obtain ⟨ks1, hks1⟩ : ∃ ks1, (It.nm [] K0).2 = ks1 := ⟨_, rfl⟩
  rw [hks1] at e2 e3 hn
  have HE1 := Aside0.mk e1
  have HE2 := Aside0.mk e2
  have HE3 := Aside0.mk e3
  have HK1 := Aside0.mk hks1
  have HF1 := Aside0.mk f1
  have HF2 := Aside0.mk f2
  have HG1 := Aside0.mk g1
  have HG2 := Aside0.mk g2
  have HLL := Aside0.mk hl
  have HN := Aside0.mk (show ks1.length ≤ 10000000 by rw [f1] at hn; simp at hn; omega)
  have HR0 := Aside0.mk hr0
  have HR1 := Aside0.mk hr1
  have HB := Aside0.mk (Below.refl w.heap.size w)
  clear hK0 hK1 e1 e2 e3 hks1 f1 f2 g1 g2 hl hn hr0 hr1
  go_enter Tryd.func25, Tryd.ntmps25
  go_upto_region 1 with ((with_reducible refine gate_dst (N := 5) rfl ?_); refine box_event ?hg (N := 5) ?hd (cs := #[.bool a2_0, .bool a2_1, .bool a2_2, .bool a2_3, .bool a2_4, .bool a2_5]) (t := 23) ?hr ?_; (case hd => rfl); (case hg => rfl); (case hr => first | (go_simp; done) | (go_simp; rfl)); intro go hg w1 hbox hb; have n1_ := Aside0.mk (below_step HB.out hb); clear HB; have HB := n1_; clear n1_; have HO := Aside0.mk hbox; clear hbox hb hg)
  have q0 := (blk_cell HO.out 0).trans (show _ = some (Value.bool a2_0) from rfl)
  have q1 := (blk_cell HO.out 1).trans (show _ = some (Value.bool a2_1) from rfl)
  have q2 := (blk_cell HO.out 2).trans (show _ = some (Value.bool a2_2) from rfl)
  have q3 := (blk_cell HO.out 3).trans (show _ = some (Value.bool a2_3) from rfl)
  have q4 := (blk_cell HO.out 4).trans (show _ = some (Value.bool a2_4) from rfl)
  have q5 := (blk_cell HO.out 5).trans (show _ = some (Value.bool a2_5) from rfl)
  go_upto_region 2 with (first | (go_at_call 19; refine (It.new a2_0 a2_1 a2_2 a2_3 a2_4 a2_5 _).mono ?_; rintro e w2 ⟨gt, gm, rfl, ht⟩; have HT : Aside0 (It.Tb gt gm a2_0 a2_1 a2_2 a2_3 a2_4 a2_5 w [] w2) := ⟨⟨ht.t, ht.m, below_step HB.out ht.b, Nat.le_trans HB.out.size ht.g1, Nat.le_trans HB.out.size ht.g2⟩⟩; clear HB HO ht q0 q1 q2 q3 q4 q5))
  obtain ⟨gb, hgb⟩ : ∃ gb, w2.heap.size = gb := ⟨_, rfl⟩
  have n1_ := Aside0.mk (HT.out.below ((Below.refl w2.heap.size w2).alloc (Nat.le_refl _) (.cells #[.pointer (some ⟨gt, 0, none⟩)] 32)))
  have n2_ := Aside0.mk (blk_new w2 (.cells #[.pointer (some ⟨gt, 0, none⟩)] 32))
  rw [hgb] at n2_ ⊢
  clear HT hgb
  generalize World.alloc w2 _ = w3 at n1_ n2_ ⊢
  have HT := n1_
  have HX := n2_
  clear n1_ n2_
  go_upto_region 4 with (go_at_call 39; refine (It.numbers gt gm gb a2_0 a2_1 a2_2 a2_3 a2_4 a2_5 w [] A0 c0 l0 K0 _ HT.out HX.out HR0.out (by have := HLL.out; omega) (by simp) HF1.out HF2.out).mono ?_; rintro e w4 ⟨v4, rfl, ht, ho, hs, hf⟩; rw [HK1.out] at ht; rw [HE1.out] at ho; have n1_ := Aside0.mk ht; have n2_ := Aside0.mk (hf _ _ _ HX.out); have HSA := Aside0.mk (show w.heap.size ≤ w3.heap.size from HT.out.b.size); have n3_ : Aside0 (Kd.R (Kd.int .i64) 3 w4 w.heap.size (fun k => w.heap.size ≤ k ∧ k < w4.heap.size) v4 r1) := ⟨Kd.R_mono (Kd.R_bound ho) (fun k hk => ⟨by have := hk.1; have := HSA.out; omega, hk.2.2.1⟩)⟩; clear HT HX ht ho hs hf; have HT := n1_; have HX := n2_; have HO1 := n3_; clear n1_ n2_ n3_)
  have n1_ := Aside0.mk (HT.out.below ((Below.refl w4.heap.size w4).drew))
  have n2_ := Aside0.mk (blk_drew HX.out)
  have n3_ := Aside0.mk (Kd.R_drew HO1.out)
  have n4_ := Aside0.mk (show w4.heap.size = w4.drew.heap.size from rfl)
  clear HT HX HO1
  have HT := n1_
  have HX := n2_
  have HO1 := n3_
  have HS4 := n4_
  clear n1_ n2_ n3_ n4_
  refine start_ (n := 9) (S := fun w' => w'.cell? ⟨gb, 0, none⟩ = some (.pointer (some ⟨gt, 0, none⟩))) (ds := []) #[false, false, false, false, false, false, false, false, false] (by kernel_rfl) rfl rfl ((blk_cell HX.out 0).trans rfl) (fun hHeld => ?_)
  refine with_tabW It.tab4i It.bits4i (fun HT_ HW_ => ?_)
  generalize w4.drew = w5 at HT HX HO1 HS4 hHeld ⊢
  refine pure_ (i := 0) (N := some 18) (v := ?_) (a' := ?_) #[true, false, false, false, false, false, false, false, false] rfl rfl (any_of HT_.out (by kernel_rfl)) (fun _ _ _ h => h) (Or.inl ⟨by rfl, ?_⟩) ?_ ?_
  rotate_left
  · intro w'
    go_simp
    with_reducible rfl
  rotate_left
  · simp only [Act.put, List.setIfInBounds_toArray, List.set_cons_zero, List.set_cons_succ, i64_w, i32_w]
    rfl
  refine pure_ (i := 1) (N := some 19) (v := ?_) (a' := ?_) #[true, true, false, false, false, false, false, false, false] rfl rfl (any_of HT_.out (by kernel_rfl)) (fun _ _ _ h => h) (Or.inl ⟨by rfl, ?_⟩) ?_ ?_
  rotate_left
  · intro w'
    go_simp
    with_reducible rfl
  rotate_left
  · simp only [Act.put, List.setIfInBounds_toArray, List.set_cons_zero, List.set_cons_succ, i64_w, i32_w]
    rfl
  refine pure_ (i := 2) (N := some 20) (v := ?_) (a' := ?_) #[true, true, true, false, false, false, false, false, false] rfl rfl (any_of HT_.out (by kernel_rfl)) (fun _ _ _ h => h) (Or.inl ⟨by rfl, ?_⟩) ?_ ?_
  rotate_left
  · intro w'
    go_simp
    with_reducible rfl
  rotate_left
  · simp only [Act.put, List.setIfInBounds_toArray, List.set_cons_zero, List.set_cons_succ, i64_w, i32_w]
    rfl
  refine take_ (i := 4) (N := some 22) (v := ?_) (a' := ?_) #[true, true, true, false, true, false, false, false, false] rfl rfl (take_ofW HT_.out HW_.out (by kernel_rfl)) (fun _ _ _ h => h) (Or.inl ⟨by rfl, ?_⟩) hHeld ?_ ?_
  rotate_left
  · intro w' s0
    go_simp
    with_reducible rfl
  rotate_left
  · simp only [Act.put, List.setIfInBounds_toArray, List.set_cons_zero, List.set_cons_succ, i64_w, i32_w]
    rfl
  refine one_ (i := 3) (N := some 21) #[true, true, true, true, true, false, false, false, false] rfl rfl (one_of HT_.out (by kernel_rfl)) (by decide) (fun K hK => ?_)
  refine call_ 39 #[.slice A1 l1.length c1, .pointer (some ⟨gb, 0, none⟩)] (by rfl) rfl (by
    have he := enters_ Tryd.func39 (by kernel_rfl) rfl #[.slice A1 l1.length c1, .pointer (some ⟨gb, 0, none⟩)] w5
    unfold execOp
    simp [resolve, Deferred.ofValue, invoke, Act.eval, he]) ?_
  refine (It.numbers gt gm gb a2_0 a2_1 a2_2 a2_3 a2_4 a2_5 w ks1 A1 c1 l1 K1 w5 HT.out HX.out HR1.out (by have := HLL.out; omega) HN.out HG1.out HG2.out).mono ?_
  rintro e' w6 ⟨v6, rfl, ht, ho, hs, hf⟩
  refine ⟨_, rfl, ?_⟩
  rw [HE2.out] at ho
  have n1_ := Aside0.mk ht
  have n2_ := Aside0.mk (hf _ _ _ HX.out)
  have n3_ := Aside0.mk (It.row_fc HO1.out hf)
  have HO2 := Aside0.mk ho
  have HS5 := Aside0.mk (show w4.heap.size = w5.heap.size from HS4.out)
  have HS6 := Aside0.mk (show w.heap.size ≤ w5.heap.size from HT.out.b.size)
  clear HT HX HO1 ht ho hs hf HS4 hHeld
  have HT := n1_
  have HX := n2_
  have HO1 := n3_
  clear n1_ n2_ n3_
  refine hK.out _ _ ((blk_cell HX.out 0).trans rfl) (fun hHeld => ?_)
  clear hK K
  refine norm_ (a' := ?_) ?_ ?_
  rotate_left
  · show Act.put _ (some 21) _ = _
    simp only [Act.put, List.setIfInBounds_toArray, List.set_cons_zero, List.set_cons_succ, i64_w, i32_w]
    rfl
  refine one_ (i := 5) (N := some 23) #[true, true, true, true, true, true, false, false, false] rfl rfl (one_of HT_.out (by kernel_rfl)) (by decide) (fun K hK => ?_)
  refine goes_ Tryd.func20 (by kernel_rfl) rfl #[.pointer (some ⟨gt, 0, none⟩)] (by rfl) rfl rfl (by (try simp only [List.map_toArray, List.map_cons, List.map_nil]); first | done | rfl) ?_
  refine (It.size_ gt gm a2_0 a2_1 a2_2 a2_3 a2_4 a2_5 w _ w6 HT.out).mono ?_
  rintro e' w7 ⟨rfl, rfl⟩
  refine ⟨_, rfl, ?_⟩
  rw [HE3.out]
  refine hK.out _ _ hHeld (fun hHeld => ?_)
  clear hK K
  refine norm_ (a' := ?_) ?_ ?_
  rotate_left
  · show Act.put _ (some 23) _ = _
    simp only [Act.put, List.setIfInBounds_toArray, List.set_cons_zero, List.set_cons_succ, i64_w, i32_w]
    rfl
  refine pure_ (i := 6) (N := some 6) (v := ?_) (a' := ?_) #[true, true, true, true, true, true, true, false, false] rfl rfl (any_of HT_.out (by kernel_rfl)) (fun _ _ _ h => h) (Or.inl ⟨by rfl, ?_⟩) ?_ ?_
  rotate_left
  · intro w'
    go_simp
    with_reducible rfl
  rotate_left
  · simp only [Act.put, List.setIfInBounds_toArray, List.set_cons_zero, List.set_cons_succ, i64_w, i32_w]
    rfl
  refine pure_ (i := 7) (N := some 7) (v := ?_) (a' := ?_) #[true, true, true, true, true, true, true, true, false] rfl rfl (any_of HT_.out (by kernel_rfl)) (fun _ _ _ h => h) (Or.inl ⟨by rfl, ?_⟩) ?_ ?_
  rotate_left
  · intro w'
    go_simp
    with_reducible rfl
  rotate_left
  · simp only [Act.put, List.setIfInBounds_toArray, List.set_cons_zero, List.set_cons_succ, i64_w, i32_w]
    rfl
  refine pure_ (i := 8) (N := some 8) (v := ?_) (a' := ?_) #[true, true, true, true, true, true, true, true, true] rfl rfl (any_of HT_.out (by kernel_rfl)) (fun _ _ _ h => h) (Or.inl ⟨by rfl, ?_⟩) ?_ ?_
  rotate_left
  · intro w'
    go_simp
    with_reducible rfl
  rotate_left
  · simp only [Act.put, List.setIfInBounds_toArray, List.set_cons_zero, List.set_cons_succ, i64_w, i32_w]
    rfl
  refine done_ (done_of HT_.out (by kernel_rfl)) ?_
  go_wp2
  go_ret3
  exact ⟨v4, v6, rfl, Kd.R_mono HO1.out (fun k hk e => by have h1 := HO2.out.1 k e.symm; have := HS5.out; omega), Kd.R_mono HO2.out (fun k hk e => by have h1 := HO1.out.1 k e.symm; have := HS5.out; omega), HT.out.b⟩
end Go.Proofs.YtglffceopijogaaDoor.X
