import Derived.Test.YtglffceopijogaaZSXx0
import Derived.Test.YtglffceopijogaaZSXx4
import Derived.Test.YtglffceopijogaaZSXx7
import Derived.Test.YtglffceopijogaaZSXx9
import Derived.Test.YtglffceopijogaaZSXx19
import Derived.Test.YtglffceopijogaaZSXx20
import Derived.Maps.OwnOps
import Derived.Maps.Views
import Derived.DeepKeys3
import Derived.Deep.RegionWith
import Derived.Deep.OwnRows
namespace Go.Proofs.Ytglffceopijogaa.X
open Go.RowKit Go.Proofs.YtglffceopijogaaW.PrintWords Go.Proofs.YtglffceopijogaaW.PrintLast Go.Proofs.YtglffceopijogaaW.PrintMore
attribute [local go_sem] max2_int min2_int max_two min_two max_three min_three max_four min_four   -- for this text's walks alone
open Go.Proofs.YtglffceopijogaaW.HandWords
set_option linter.unusedVariables false
set_option linter.unusedSimpArgs false
theorem sk_keyed : Go.Maps.Keyed Try.prog 69 := Go.Maps.Keyed.of_law (deep_law (m := 2) (by omega) (by kernel_rfl) (by kernel_rfl) (by rw [Try.underlying69]))
def sk (i n : Int) : Value := .agg #[.int .i64 i, .int .i64 n]
def skl (i n : Int) : Lit := .string (keyBytes [.int .i64 i, .int .i64 n])
theorem sk_key {i n : Int} (hi : (Lit.int .i64 i).wf = true) (hn : (Lit.int .i64 n).wf = true) : keyOf Try.prog 69 (sk i n) = some (skl i n) := by
  have hkt : Try.prog.keyType 69 = true := by kernel_rfl
  have hc : Try.prog.cellsOf 69 = 2 := by kernel_rfl
  have hc3 : Try.prog.cellsOf 3 = 1 := by kernel_rfl
  obtain ⟨m, hm⟩ : ∃ m, Try.prog.types.size = m + 1 := ⟨Try.prog.types.size - 1, by have h : 0 < Try.prog.types.size := of_decide_eq_true (by kernel_rfl); omega⟩
  unfold keyOf
  simp only [Try.underlying69]
  rw [if_pos (by simp [hkt, sk, Value.formed, Try.underlying69, hc]), hm]
  unfold Program.keyLits
  simp only [Try.underlying69, Value.cells, sk]
  rw [if_pos (by rw [hc]; exact ⟨rfl, by kernel_rfl⟩)]
  simp [hc3, Program.keyLits, Try.underlying3, hi, hn, skl]
theorem sk_zero (w : World) : (zeroValue 4).run Try.prog w = .ok (.bool false) w := by kernel_rfl
def sk_el (v : Value) : Option (DataW Value × List MemPlace) := some (.held v, [])
def MapS (W : World) (g n : Nat) (F : Int → Int → Bool) : Prop := ∃ D : DataW Value, Go.Maps.IsMap D ∧ W.ownsMap Try.prog 69 sk_el g n D ∧ ∀ i m, (Lit.int .i64 i).wf = true → (Lit.int .i64 m).wf = true → D.atKey (skl i m) (.held (.bool false)) = .held (.bool (F i m))
theorem MapS.made (W : World) : MapS (W.alloc (.map #[] 0)) W.heap.size 0 (fun _ _ => false) := ⟨.map [], Go.Maps.isMap_empty, World.ownsMap_made _ _ _ _, fun _ _ _ _ => rfl⟩
theorem MapS.kept {W W' : World} {g n : Nat} {F : Int → Int → Bool} {row : Option Nat} (h : MapS W g n F) (hg : W.grownBy W' row) (hne : some g ≠ row) : MapS W' g n F := by
  obtain ⟨D, h1, h2, h3⟩ := h
  exact ⟨D, h1, h2.kept hg hne, h3⟩
theorem MapS.same {W W' : World} {g n : Nat} {F : Int → Int → Bool} (h : MapS W g n F) (e : W'.heap[g]? = W.heap[g]?) : MapS W' g n F := by
  obtain ⟨D, h1, ⟨es, clock, h2, h4⟩, h3⟩ := h
  exact ⟨D, h1, ⟨es, clock, e.trans h2, h4⟩, h3⟩
theorem MapS.set {W : World} {g n : Nat} {F : Int → Int → Bool} (h : MapS W g n F) {p : Addr} (hp : g ≠ p.block) (u : Value) : MapS (W.setCell p u) g n F := h.same (Below.heap_setCell W p u g hp)
theorem MapS.ne {W : World} {g n k : Nat} {F : Int → Int → Bool} {cs : Array Value} {t : TypeId} {fr : Nat × Nat} (h : MapS W g n F) (hk : W.heap[k]? = some (.cells cs t fr)) : g ≠ k := by
  obtain ⟨D, h1, ⟨es, clock, h2, h4⟩, h3⟩ := h
  rintro rfl
  rw [hk] at h2
  cases h2
theorem MapS.lt {W : World} {g n : Nat} {F : Int → Int → Bool} (h : MapS W g n F) : g < W.heap.size := by
  obtain ⟨D, h1, h2, h3⟩ := h
  exact h2.lt
theorem MapS.app {α : Type} {d : Kd α} {e : TypeId} {base : Nat} {ok : Nat → Prop} {v : Value} {xs : List α} {W W' : World} {g n : Nat} {F : Int → Int → Bool} (h : MapS W g n F) (hR : d.R e W base ok v xs) (hg : W.grownBy W' v.ownBlock) : MapS W' g n F := h.kept hg (by
  intro e
  obtain ⟨inner, ho⟩ := Kd.R_own hR
  obtain ⟨cells, hc⟩ := own_typed ho g e.symm
  exact h.ne hc rfl)
theorem MapS.look {W : World} {g n : Nat} {F : Int → Int → Bool} (h : MapS W g n F) (i m : Int) (hi : (Lit.int .i64 i).wf = true) (hm : (Lit.int .i64 m).wf = true) : (Instr.lookup 65 (.map (some g)) (.agg #[.int .i64 i, .int .i64 m]) false).run Try.prog W = .ok (.bool (F i m)) W := by
  obtain ⟨D, h1, h2, h3⟩ := h
  obtain ⟨v, ps, hrun, hv⟩ := h2.lookup sk_keyed Try.underlying65 (sk_zero W) (zd := .held (.bool false)) (zp := []) rfl (sk_key hi hm)
  rw [h3 i m hi hm] at hv
  simp only [sk_el, Option.some.injEq, Prod.mk.injEq] at hv
  have e : v = .bool (F i m) := by have := hv.1; injection this
  rw [← e]; exact hrun
theorem skl_inj {i n j m : Int} (hi : (Lit.int .i64 i).wf = true) (hn : (Lit.int .i64 n).wf = true) (hj : (Lit.int .i64 j).wf = true) (hm : (Lit.int .i64 m).wf = true) (h : skl i n = skl j m) : i = j ∧ n = m := by
  have h1 := sk_key hi hn
  have h2 := sk_key hj hm
  rw [h] at h1
  have := sk_keyed.inj h1 h2
  simp only [sk, Value.agg.injEq, Array.mk.injEq, List.cons.injEq, Value.int.injEq, true_and, and_true] at this
  exact this
def sa_upd (F : Int → Int → Bool) (i n : Int) : Int → Int → Bool := fun j m => if j = i ∧ m = n then true else F j m
theorem MapS.put_event {P : Program} (hP : P = Try.prog) {W : World} {ops : Array Oper} {rest : List Oper} {o : Oper} {a : Act} {Q : Exit → Act → World → Prop} (hg : o.guard = none) (m x v : Operand) (hop : o.op = Op.mapUpdate 65 m x v)
    {g c : Nat} {F : Int → Int → Bool} (hm : a.eval m = .map (some g)) (h : MapS W g c F) (hc : c < maxLen) (i n : Int) (hx : a.eval x = .agg #[.int .i64 i, .int .i64 n]) (hv : a.eval v = .bool true) (hi : (Lit.int .i64 i).wf = true) (hn : (Lit.int .i64 n).wf = true)
    (hK : ∀ w', MapS w' g (c + 1) (sa_upd F i n) → W.grownBy w' (some g) → wpList P ops Q rest (a.put o.dst undef) w') : wpList P ops Q (o :: rest) a W := by
  subst hP
  obtain ⟨D, h1, h2, h3⟩ := h
  refine wpList_mapUpdate_own W hg m x v 65 hop 69 4 sk_keyed Try.underlying65 sk_el g c D hm h2 hc _ _ (skl i n) hx hv (sk_key hi hn) (.held (.bool true)) [] rfl ?_
  intro w' h4 h5
  refine hK w' ⟨D.put (skl i n) (.held (.bool true)), h1.put _ _, h4, ?_⟩ h5
  intro j q hj hq
  by_cases e : j = i ∧ q = n
  · obtain ⟨rfl, rfl⟩ := e
    rw [Go.Maps.atKey_put_same h1 (by exact trivial)]
    unfold sa_upd
    rw [if_pos ⟨rfl, rfl⟩]
  · rw [Go.Maps.atKey_put_other (by intro h; exact e (skl_inj hj hq hi hn h))]
    unfold sa_upd
    rw [if_neg e]
    exact h3 j q hj hq
def sa_cs (want : ByteArray) (p : S74) (s : ByteArray) (i : Nat) (rc : Int → (Int → Int → Bool) → List ByteArray → Option (Bool × (Int → Int → Bool) × List ByteArray)) : List ByteArray → (Int → Int → Bool) → List ByteArray → Option (Bool × (Int → Int → Bool) × List ByteArray)
  | [], F, out => some (false, F, out)
  | x :: xs, F, out => (sdiff_answered.f x p.f1 p.f2).bind fun t => (sdiff_joined.f s p.f0).bind fun u => (sdiff_joined.f u t.1).bind fun nx => (strings_HasPrefix.f want nx).bind fun b =>
    if b = true then (if i ≤ out.length then (rc (nx.size : Int) F (out.take i ++ [x])).bind fun R => if R.1 = true then some R else sa_cs want p s i rc xs R.2.1 R.2.2 else none)
    else sa_cs want p s i rc xs F out
def sa_lr : List ByteArray := [⟨#[108]⟩, ⟨#[114]⟩]
def sa_try (want fin : ByteArray) : List S74 → Nat → Int → (Int → Int → Bool) → List ByteArray → Option (Bool × (Int → Int → Bool) × List ByteArray)
  | [], i, n, F, out => if 0 ≤ n ∧ n ≤ (want.size : Int) then (sdiff_joined.f (want.extract 0 n.toNat) fin).bind fun t => some (t.toList == want.toList, F, out) else none
  | p :: ps, i, n, F, out => if 0 ≤ n ∧ n ≤ (want.size : Int) then (if F (i : Int) n = true then some (false, F, out) else (sa_cs want p (want.extract 0 n.toNat) i (fun n' F' o' => sa_try want fin ps (i + 1) n' F' o') sa_lr F out).bind fun R => if R.1 = true then some R else some (false, sa_upd R.2.1 (i : Int) n, R.2.2)) else none
structure PA (gw gp ge gf go gt gm : Nat) (w0 : World) (want fin : ByteArray) (A : Option Addr) (c : Nat) (P : List S74) (cnt : Nat) (F : Int → Int → Bool) (v vr : Value) (out : List ByteArray) (W : World) : Prop where
  w : W.heap[gw]? = some (.cells #[.string want] 9 (0, 0))
  p : W.heap[gp]? = some (.cells #[.slice A P.length c] 62 (0, 0))
  e : W.heap[ge]? = some (.cells #[.string fin] 9 (0, 0))
  f : W.heap[gf]? = some (.cells #[.map (some gm)] 65 (0, 0))
  o : W.heap[go]? = some (.cells #[v] 23 (0, 0))
  t : W.heap[gt]? = some (.cells #[.func (.func 23) #[] #[.pointer (some ⟨gw, 0, none⟩), .pointer (some ⟨gp, 0, none⟩), .pointer (some ⟨ge, 0, none⟩), .pointer (some ⟨gf, 0, none⟩), .pointer (some ⟨go, 0, none⟩), .pointer (some ⟨gt, 0, none⟩)]] 66 (0, 0))
  m : MapS W gm cnt F
  r : Kd.R Kd.string 9 W w0.heap.size (fun k => k ≠ gw ∧ k ≠ ge) vr out
  rp : Kd.R k74 74 W w0.heap.size (fun _ => True) (.slice A P.length c) P
  b : Below w0.heap.size w0 W
  og : w0.heap.size ≤ go
  mg : w0.heap.size ≤ gm
section
variable {gw gp ge gf go gt gm : Nat} {w0 : World} {want fin : ByteArray} {A : Option Addr} {c : Nat} {P : List S74} {cnt : Nat} {F : Int → Int → Bool} {v vr : Value} {out : List ByteArray} {W : World}
theorem PA.drewN (h : PA gw gp ge gf go gt gm w0 want fin A c P cnt F v vr out W) (n : Nat) : PA gw gp ge gf go gt gm w0 want fin A c P cnt F v vr out (W.drewN n) :=
  ⟨blk_drewN h.w n, blk_drewN h.p n, blk_drewN h.e n, blk_drewN h.f n, blk_drewN h.o n, blk_drewN h.t n, h.m.same rfl, Kd.R_drewN h.r n, Kd.R_drewN h.rp n, pw_below_drewN h.b n, h.og, h.mg⟩
theorem PA.setO (h : PA gw gp ge gf go gt gm w0 want fin A c P cnt F v vr out W) (x : Value) : PA gw gp ge gf go gt gm w0 want fin A c P cnt F x vr out (W.setCell ⟨go, 0, none⟩ x) :=
  ⟨blk_far h.w (blk_ne h.w h.o (by decide)) _, blk_far h.p (blk_ne h.p h.o (by decide)) _, blk_far h.e (blk_ne h.e h.o (by decide)) _, blk_far h.f (blk_ne h.f h.o (by decide)) _, blk_put h.o 0 _ rfl, blk_far h.t (blk_ne h.t h.o (by decide)) _, h.m.set (h.m.ne h.o) _,
    Kd.R_set h.r h.o (by intro q hq; have e : (Kd.string).E = [] := rfl; rw [e] at hq; simp only [List.mem_cons, List.not_mem_nil, or_false] at hq; subst hq; decide) 0 _,
    Kd.R_set h.rp h.o (by intro q hq; have e : (k74).E = [] := rfl; rw [e] at hq; simp only [List.mem_cons, List.not_mem_nil, or_false] at hq; subst hq; decide) 0 _, h.b.setCell h.og _, h.og, h.mg⟩
theorem PA.app (h : PA gw gp ge gf go gt gm w0 want fin A c P cnt F v vr out W) {w1 : World} {v1 : Value} {out1 : List ByteArray} (hg : W.grownBy w1 vr.ownBlock)
    (ho : Kd.R Kd.string 9 w1 w0.heap.size (fun k => k ≠ gw ∧ k ≠ ge) v1 out1) (hb : Below w0.heap.size w0 w1) : PA gw gp ge gf go gt gm w0 want fin A c P cnt F v v1 out1 w1 :=
  ⟨blk_grown h.w hg (fun e => (h.r.1 gw e.symm).1 rfl), blk_grown h.p hg (Kd.R_ne h.r h.p (by decide)), blk_grown h.e hg (fun e => (h.r.1 ge e.symm).2 rfl), blk_grown h.f hg (Kd.R_ne h.r h.f (by decide)), blk_grown h.o hg (Kd.R_ne h.r h.o (by decide)), blk_grown h.t hg (Kd.R_ne h.r h.t (by decide)), h.m.app h.r hg, ho,
    Kd.R_grown2 h.rp rfl hg (fun k hk => by obtain ⟨cells, hc⟩ := Kd.R_typed h.r k hk; exact Kd.R_ne h.rp hc (by decide)), hb, h.og, h.mg⟩
theorem PA.put (h : PA gw gp ge gf go gt gm w0 want fin A c P cnt F v vr out W) {w1 : World} {cnt1 : Nat} {F1 : Int → Int → Bool} (hm : MapS w1 gm cnt1 F1) (hg : W.grownBy w1 (some gm)) : PA gw gp ge gf go gt gm w0 want fin A c P cnt1 F1 v vr out w1 := by
  have ne : ∀ {k : Nat} {cs : Array Value} {t : TypeId}, W.heap[k]? = some (.cells cs t (0, 0)) → some k ≠ some gm := fun hk e => by injection e with e; exact h.m.ne hk e.symm
  refine ⟨blk_grown h.w hg (ne h.w), blk_grown h.p hg (ne h.p), blk_grown h.e hg (ne h.e), blk_grown h.f hg (ne h.f), blk_grown h.o hg (ne h.o), blk_grown h.t hg (ne h.t), hm, Kd.R_grown2 h.r rfl hg (fun k hk e => ?_), Kd.R_grown2 h.rp rfl hg (fun k hk e => ?_), h.b.grown hg h.b.size (fun k hk => by injection hk with hk; rw [← hk]; exact h.mg), h.og, h.mg⟩
  · obtain ⟨cells, hc⟩ := Kd.R_typed h.r k e.symm
    exact ne hc hk.symm
  · obtain ⟨cells, hc⟩ := Kd.R_typed h.rp k e.symm
    exact ne hc hk.symm
end
theorem sa_wf {z : Int} (h0 : 0 ≤ z) (h1 : z ≤ 1000000000000) : (Lit.int .i64 z).wf = true := by
  have e1 : IntKind.i64.min = -9223372036854775808 := by decide
  have e2 : IntKind.i64.max = 9223372036854775807 := by decide
  simp only [Lit.wf, decide_eq_true_eq, Bool.and_eq_true, e1, e2]
  omega
theorem sa_pick (z : Nat) (h : z < 2) : ∃ x, (∀ w, (Instr.index 70 (.agg #[.string ⟨#[108]⟩, .string ⟨#[114]⟩]) (.int .i64 (z : Int))).run Try.prog w = .ok (.string x) w) ∧ sa_lr.drop z = x :: sa_lr.drop (z + 1) := by
  obtain rfl | rfl : z = 0 ∨ z = 1 := by omega
  · exact ⟨_, fun w => by kernel_rfl, rfl⟩
  · exact ⟨_, fun w => by kernel_rfl, rfl⟩
set_option maxHeartbeats 4000000 in
set_option maxRecDepth 100000 in
theorem sdiff_try.calls (gw gp ge gf go gt gm : Nat) (w0 : World) (want fin : ByteArray) (A : Option Addr) (c : Nat) (P : List S74) (hws : want.size ≤ 1000000000000) (hPl : P.length ≤ 10) :
    ∀ (ps : List S74) (i : Nat) (n : Int) (cnt : Nat) (F : Int → Int → Bool) (v : Value) (out : List ByteArray) (R : Bool × (Int → Int → Bool) × List ByteArray) (w : World), PA gw gp ge gf go gt gm w0 want fin A c P cnt F v v out w → P.drop i = ps → i + ps.length = P.length → cnt + 2 ^ ps.length ≤ 100000 → sa_try want fin ps i n F out = some R →
    Calls Try.prog 23 #[.int .i64 (i : Int), .int .i64 n, .pointer (some ⟨gw, 0, none⟩), .pointer (some ⟨gp, 0, none⟩), .pointer (some ⟨ge, 0, none⟩), .pointer (some ⟨gf, 0, none⟩), .pointer (some ⟨go, 0, none⟩), .pointer (some ⟨gt, 0, none⟩)] w fun e w' => e = .returned (.bool R.1) ∧ ∃ cnt' v', cnt' < cnt + 2 ^ ps.length ∧ PA gw gp ge gf go gt gm w0 want fin A c P cnt' R.2.1 v' v' R.2.2 w' := by
  intro ps
  induction ps with
  | nil =>
    intro i n cnt F v out R w hx hd hi hc h
    rw [sa_try] at h
    by_cases hn : 0 ≤ n ∧ n ≤ (want.size : Int)
    case neg => rw [if_neg hn] at h; cases h
    rw [if_pos hn] at h
    obtain ⟨t, ht, h⟩ := Option.bind_eq_some_iff.mp h
    obtain rfl := Option.some.inj h
    have HX := Aside0.mk hx
    have HT := Aside0.mk ht
    have p1 := eq_true hn.1
    have p2 := eq_true hn.2
    have hz : ((i : Int) == (P.length : Int)) = true := beq_iff_eq.mpr (by simp at hi; omega)
    have e0 := (blk_cell HX.out.w 0).trans (show _ = some (Value.string want) from rfl)
    have e1 := (blk_cell HX.out.p 0).trans (show _ = some (Value.slice A P.length c) from rfl)
    have e2 := (blk_cell HX.out.e 0).trans (show _ = some (Value.string fin) from rfl)
    clear hx ht hd hi h hn
    go_enter Try.func23, Try.ntmps23
    go_upto_region 3 with (fail)
    (try simp only [Act.put, List.setIfInBounds_toArray, List.set_cons_zero, List.set_cons_succ])
    go_cut [10] (fun v10 wc => v10 = .bool (t.toList == want.toList) ∧ Aside0 (PA gw gp ge gf go gt gm w0 want fin A c P cnt F v v out wc))
    case first =>
      go_region_with (go_at_call 24; (with_reducible refine (sdiff_joined.calls (want.extract 0 n.toNat) fin t _ HT.out).mono ?_); rintro e w8 ⟨rfl, ⟨nd, rfl⟩⟩)
      all_goals (go_wp2; go_meet)
      all_goals (case rel => exact ⟨rfl, ⟨by repeat (first | exact HX.out | apply PA.drewN | apply PA.drew)⟩⟩)
    case rest =>
      clear HX e0 e1 e2
      obtain ⟨rfl, HX⟩ := hcut
      go_wp2
      go_ret
      exact ⟨rfl, cnt, v, by simp, HX.out⟩
  | cons p ps ih =>
    intro i n cnt F v out R w hx hd hi hc h
    have IH : Aside0 (∀ (yi yn : Int) (i : Nat) (n : Int) (cnt : Nat) (F : Int → Int → Bool) (v : Value) (out : List ByteArray) (R : Bool × (Int → Int → Bool) × List ByteArray) (w : World), yi = (i : Int) → yn = n → PA gw gp ge gf go gt gm w0 want fin A c P cnt F v v out w → P.drop i = ps → i + ps.length = P.length → cnt + 2 ^ ps.length ≤ 100000 → sa_try want fin ps i n F out = some R →
      Calls Try.prog 23 #[.int .i64 yi, .int .i64 yn, .pointer (some ⟨gw, 0, none⟩), .pointer (some ⟨gp, 0, none⟩), .pointer (some ⟨ge, 0, none⟩), .pointer (some ⟨gf, 0, none⟩), .pointer (some ⟨go, 0, none⟩), .pointer (some ⟨gt, 0, none⟩)] w fun e w' => e = .returned (.bool R.1) ∧ ∃ cnt' v', cnt' < cnt + 2 ^ ps.length ∧ PA gw gp ge gf go gt gm w0 want fin A c P cnt' R.2.1 v' v' R.2.2 w') := ⟨by
      intro yi yn i n cnt F v out R w e1 e2
      subst e1 e2
      exact ih i yn cnt F v out R w⟩
    rw [sa_try] at h
    obtain ⟨zi, hzi⟩ : ∃ zi : Int, (i : Int) = zi := ⟨_, rfl⟩
    rw [hzi] at h ⊢
    have HZI := Aside0.mk hzi
    by_cases hn : 0 ≤ n ∧ n ≤ (want.size : Int)
    case neg => rw [if_neg hn] at h; cases h
    rw [if_pos hn] at h
    rw [List.length_cons] at hi
    have hpow : 2 ^ (p :: ps).length = 2 ^ ps.length + 2 ^ ps.length := by rw [List.length_cons, Nat.pow_succ]; omega
    have hone : 1 ≤ 2 ^ ps.length := Nat.one_le_two_pow
    rw [hpow] at hc ⊢
    obtain ⟨M, hM⟩ : ∃ M, 2 ^ ps.length = M := ⟨_, rfl⟩
    rw [hM] at hc hone IH ⊢
    have hdp : rd_T74 P zi = p := by
      rw [← hzi]
      have : P[i]? = some p := by have e := congrArg (fun l => l[0]?) hd; simpa using e
      simp [rd_T74, List.getD_eq_getElem?_getD, this]
    have hdn : P.drop (i + 1) = ps := by rw [← List.drop_drop, hd]; rfl
    have HX := Aside0.mk hx
    have HI := Aside0.mk (And.intro hi (And.intro hc hone))
    have ib0 : 0 ≤ zi := by omega
    have ib1 : zi ≤ 10 := by omega
    have ib2 : zi < (P.length : Int) := by omega
    have ib3 : zi ≠ (P.length : Int) := by omega
    clear hzi
    have HDN := Aside0.mk hdn
    have HN := Aside0.mk hn
    have p1 := eq_true hn.1
    have p2 := eq_true hn.2
    have hz : (zi == (P.length : Int)) = false := beq_eq_false_iff_ne.mpr ib3
    have wfi : (Lit.int .i64 zi).wf = true := sa_wf (by omega) (by omega)
    have wfn : (Lit.int .i64 n).wf = true := sa_wf (by omega) (by omega)
    have e0 := (blk_cell HX.out.w 0).trans (show _ = some (Value.string want) from rfl)
    have e1 := (blk_cell HX.out.p 0).trans (show _ = some (Value.slice A P.length c) from rfl)
    have e3 := (blk_cell HX.out.f 0).trans (show _ = some (Value.map (some gm)) from rfl)
    have hlk := HX.out.m.look zi n wfi wfn
    by_cases hF : F zi n = true
    · rw [if_pos hF] at h
      obtain rfl := Option.some.inj h
      rw [hF] at hlk
      clear hx hd hi h hn hpow hone hM hdn hdp hc ih
      go_enter Try.func23, Try.ntmps23
      go_wp2
      go_ret
      exact ⟨rfl, cnt, v, by have := HI.out; omega, HX.out⟩
    rw [if_neg hF] at h
    rw [Bool.eq_false_iff.2 hF] at hlk
    obtain ⟨Rc, hcs, h⟩ := Option.bind_eq_some_iff.mp h
    have HCS := Aside0.mk hcs
    have HR := Aside0.mk h
    have HC0 : Aside0 (cnt + 0 ≤ cnt + 0 * M) := ⟨by omega⟩
    obtain ⟨S, hS⟩ : ∃ S, want.extract 0 n.toNat = S := ⟨_, rfl⟩
    rw [hS] at HCS
    have HCS0 : Aside0 (sa_cs want p S i (fun n' F' o' => sa_try want fin ps (i + 1) n' F' o') (sa_lr.drop 0) F out = some Rc) := HCS
    have hw : wrap64 (zi + 1) = zi + 1 := by unfold wrap64; omega
    have hw2 : IntKind.i64.wrap (zi + 1) = zi + 1 := (i64_w _).trans hw
    have p3 := eq_true ib0
    have p4 := eq_true ib2
    have HDP := Aside0.mk hdp
    clear hx hd hi h hn hpow hone hM hdn hdp hc ih hcs HCS hF
    go_enter Try.func23, Try.ntmps23
    go_upto_region 7 with (fail)
    clear hS
    go_loopg [35] 2 (fun q v35 w' => ∃ (z : Nat) (cq : Nat) (Fq : Int → Int → Bool) (vq : Value) (outq : List ByteArray), v35 = .int .i64 (z : Int) ∧ z + q = 2 ∧ Aside0 (sa_cs want p S i (fun n' F' o' => sa_try want fin ps (i + 1) n' F' o') (sa_lr.drop z) Fq outq = some Rc) ∧ Aside0 (cq + z ≤ cnt + z * M) ∧ Aside0 (PA gw gp ge gf go gt gm w0 want fin A c P cq Fq vq vq outq w'))
    case atStart => exact ⟨0, cnt, F, v, out, rfl, rfl, HCS0, HC0, HX⟩
    case round =>
      clear HX HCS0 HC0 e0 e1 e3 hlk
      obtain ⟨z, cq, Fq, vq, outq, rfl, hzq, HCS, HCQ, HX⟩ := hrel
      have e0 := (blk_cell HX.out.w 0).trans (show _ = some (Value.string want) from rfl)
      have e1 := (blk_cell HX.out.p 0).trans (show _ = some (Value.slice A P.length c) from rfl)
      have e3 := (blk_cell HX.out.f 0).trans (show _ = some (Value.map (some gm)) from rfl)
      cases gk with
      | zero =>
        have hzl : decide ((z : Int) < 2) = false := decide_eq_false (by omega)
        have HR2 : Aside0 (R = (false, sa_upd Fq zi n, outq)) := ⟨by
          have h := HCS.out
          rw [show z = 2 by omega] at h
          have h2 : Rc = (false, Fq, outq) := (Option.some.inj h).symm
          have h3 := HR.out
          rw [h2] at h3
          exact (Option.some.inj h3).symm⟩
        have HC2 : Aside0 (cq + 1 < cnt + (M + M)) := ⟨by have h := HCQ.out; rw [show z = 2 by omega] at h; have := HI.out; omega⟩
        have HML : Aside0 (cq < maxLen) := ⟨by have := HC2.out; have := HI.out; unfold maxLen; omega⟩
        clear HCS HR HCQ hzq
        go_wp2_with (first | (at_mapUpdate; go_loud (refine MapS.put_event rfl rfl _ _ _ rfl rfl HX.out.m HML.out zi n rfl rfl wfi wfn ?_); intro w7 hm7 hg7; have n1_ := Aside0.mk (HX.out.put hm7 hg7); clear HX hm7 hg7 e0 e1 e3; have HX := n1_; clear n1_))
        go_ret
        rw [HR2.out]
        exact ⟨rfl, cq + 1, vq, HC2.out, HX.out⟩
      | succ q1 =>
        have hzl : decide ((z : Int) < 2) = true := decide_eq_true (by omega)
        obtain ⟨x, hix, hdrop⟩ := sa_pick z (by omega)
        have h := HCS.out
        rw [hdrop, sa_cs] at h
        obtain ⟨⟨tt, tb⟩, hta, h⟩ := Option.bind_eq_some_iff.mp h
        obtain ⟨tu, htu, h⟩ := Option.bind_eq_some_iff.mp h
        obtain ⟨nx, hnx, h⟩ := Option.bind_eq_some_iff.mp h
        obtain ⟨b, hb, h⟩ := Option.bind_eq_some_iff.mp h
        have HTA := Aside0.mk hta
        have HTU := Aside0.mk htu
        have HNX := Aside0.mk hnx
        have HBB := Aside0.mk hb
        have HCS2 := Aside0.mk h
        have HZ := Aside0.mk hzq
        have hzw : IntKind.i64.wrap ((z : Int) + 1) = ((z + 1 : Nat) : Int) := by rw [i64_w]; unfold wrap64; omega
        obtain ⟨ad, ea, x0, x1, x2⟩ := at_T74 (Kd.R_reads' HX.out.rp).2.2 zi ib0 ib2
        cases ea
        rw [HDP.out] at x0 x1 x2
        clear HCS hta htu hnx hb h hdrop hzq
        go_upto_region 9 with (fail)
        (try simp only [Act.put, List.setIfInBounds_toArray, List.set_cons_zero, List.set_cons_succ])
        go_cut [14] (fun v14 wc => v14 = .string tt ∧ Aside0 (PA gw gp ge gf go gt gm w0 want fin (some ad) c P cq Fq vq vq outq wc))
        case first =>
          go_region_with (go_at_call 25; (with_reducible refine (sdiff_answered.calls x p.f1 p.f2 tt tb _ HTA.out).mono ?_); rintro e w8 ⟨rfl, ⟨nd, rfl⟩⟩)
          all_goals (go_wp2; go_meet)
          all_goals (case rel => exact ⟨rfl, ⟨by repeat (first | exact HX.out | apply PA.drewN | apply PA.drew)⟩⟩)
        case rest =>
          clear HX e0 e1 e3 x0 x1 x2
          obtain ⟨rfl, HX⟩ := hcut
          have e0 := (blk_cell HX.out.w 0).trans (show _ = some (Value.string want) from rfl)
          have e1 := (blk_cell HX.out.p 0).trans (show _ = some (Value.slice (some ad) P.length c) from rfl)
          obtain ⟨ad2, ea, x0, x1, x2⟩ := at_T74 (Kd.R_reads' HX.out.rp).2.2 zi ib0 ib2
          cases ea
          rw [HDP.out] at x0 x1 x2
          obtain ⟨A2, c2, rfl⟩ := Kd.R_slice HX.out.r
          have e5 := (blk_cell HX.out.o 0).trans (show _ = some (Value.slice A2 outq.length c2) from rfl)
          cases b with
          | false =>
            have HCS3 : Aside0 (sa_cs want p S i (fun n' F' o' => sa_try want fin ps (i + 1) n' F' o') (sa_lr.drop (z + 1)) Fq outq = some Rc) := ⟨by have h := HCS2.out; rw [if_neg Bool.false_ne_true] at h; exact h⟩
            have HCQ2 : Aside0 (cq + (z + 1) ≤ cnt + (z + 1) * M) := ⟨by have h1 := HCQ.out; have h2 := HI.out; rw [Nat.succ_mul]; omega⟩
            clear HCS2 HCQ
            go_wp2_with (first | (go_at_call 24; first | ((with_reducible refine (sdiff_joined.calls S p.f0 tu _ HTU.out).mono ?_); rintro e w8 ⟨rfl, ⟨nd, rfl⟩⟩) | ((with_reducible refine (sdiff_joined.calls tu tt nx _ HNX.out).mono ?_); rintro e w8 ⟨rfl, ⟨nd, rfl⟩⟩)) | (go_at_call 26; (with_reducible refine (strings_HasPrefix.calls want nx false _ HBB.out).mono ?_); rintro e w8 ⟨rfl, ⟨nd, rfl⟩⟩))
            go_roundg q1
            case measure => omega
            case rel => exact ⟨z + 1, cq, Fq, _, outq, by go_num, by have := HZ.out; omega, HCS3, HCQ2, ⟨by repeat (first | exact HX.out | apply PA.drewN | apply PA.drew)⟩⟩
          | true =>
            have h := HCS2.out
            rw [if_pos rfl] at h
            by_cases hil : i ≤ outq.length
            case neg => rw [if_neg hil] at h; cases h
            rw [if_pos hil] at h
            obtain ⟨⟨rb, rF, ro⟩, hr1, h⟩ := Option.bind_eq_some_iff.mp h
            obtain ⟨ol, hol⟩ : ∃ y, outq.take i = y := ⟨_, rfl⟩
            obtain ⟨on, hon⟩ : ∃ y, ol ++ [x] = y := ⟨_, rfl⟩
            rw [hol, hon] at hr1
            have HR1 := Aside0.mk hr1
            have HH := Aside0.mk h
            have HON := Aside0.mk hon
            have HOL : Aside0 (ol.length = i) := ⟨by rw [← hol, List.length_take]; omega⟩
            have hcap := (Kd.R_reads' HX.out.r).2.1
            have ib4 : zi ≤ (c2 : Int) := by have := HZI.out; omega
            obtain ⟨i1, hi1, hs1⟩ : ∃ i, Try.prog.info? 9 = some i ∧ i.size = 1 := ⟨_, rfl, rfl⟩
            have htk := (print_take_of (P := Try.prog) Value.string ByteArray.empty 23 9 .i64 Try.underlying23 hi1 hs1 A2 c2 outq zi ib0 (by have := HZI.out; omega) hcap).1
            rw [show zi.toNat = i by have := HZI.out; omega, hol] at htk
            have HTK : Aside0 (PA gw gp ge gf go gt gm w0 want fin (some ad) c P cq Fq (.slice A2 outq.length c2) (.slice A2 ol.length c2) ol wc) := ⟨⟨HX.out.w, HX.out.p, HX.out.e, HX.out.f, HX.out.o, HX.out.t, HX.out.m, by have h1 := Kd.R_take HX.out.r hil; rw [hol] at h1; rw [HOL.out]; exact h1, HX.out.rp, HX.out.b, HX.out.og, HX.out.mg⟩⟩
            have HQB : Aside0 (cq + M ≤ 100000) := ⟨by
              have h1 := HCQ.out
              have h2 := HI.out
              have h3 : z = 0 ∨ z = 1 := by have := HZ.out; omega
              rcases h3 with rfl | rfl <;> omega⟩
            have HQC : Aside0 (cq + M ≤ cnt + (M + M)) := ⟨by
              have h1 := HCQ.out
              have h2 := HI.out
              have h3 : z = 0 ∨ z = 1 := by have := HZ.out; omega
              rcases h3 with rfl | rfl <;> omega⟩
            clear HX HCS2 h hr1 hon hol hcap hil hi1 hs1 ib4
            cases rb with
            | true =>
              have HRF : Aside0 (R = (true, rF, ro)) := ⟨by
                have h1 := Option.some.inj (show some (true, rF, ro) = some Rc from HH.out)
                have h2 := HR.out
                rw [← h1] at h2
                exact (Option.some.inj h2).symm⟩
              go_wp2_with (first | (go_at_call 24; first | ((with_reducible refine (sdiff_joined.calls S p.f0 tu _ HTU.out).mono ?_); rintro e w8 ⟨rfl, ⟨nd, rfl⟩⟩) | ((with_reducible refine (sdiff_joined.calls tu tt nx _ HNX.out).mono ?_); rintro e w8 ⟨rfl, ⟨nd, rfl⟩⟩)) | (go_at_call 26; (with_reducible refine (strings_HasPrefix.calls want nx true _ HBB.out).mono ?_); rintro e w8 ⟨rfl, ⟨nd, rfl⟩⟩) | ((with_reducible refine gate_builtin (b := .append) (xs := #[.tmp 68, .tmp 70]) rfl ?_); at_builtin; refine Kd.R_append Kd.string (w0 := w0) w0.heap.size rfl (.tmp 68) (.tmp 70) 23 9 (.string ⟨#[]⟩) 16 rfl Try.underlying23 info9 rfl (by decide) (by omega) (.slice A2 ol.length c2) ol x [.string x] (fun k => k ≠ gw ∧ k ≠ ge) (fun _ => False) rfl rfl ?aP (fun _ hk => hk.elim) ?aF ?aO ?aB ?aS ?aL ?_; (case aP => exact rfl); (case aB => exact PA.b (by repeat (first | exact HTK.out | apply PA.alloc | apply PA.drewN | apply PA.drew))); (case aF => exact (fun k_ hk => ⟨fun e_ => by have h1 := blk_lt HTK.out.w; have h2 : wc.heap.size ≤ k_ := hk; omega, fun e_ => by have h1 := blk_lt HTK.out.e; have h2 : wc.heap.size ≤ k_ := hk; omega⟩)); (case aO => exact PA.r (by repeat (first | exact HTK.out | apply PA.alloc | apply PA.drewN | apply PA.drew))); (case aS => exact (PA.b (by repeat (first | exact HTK.out | apply PA.alloc | apply PA.drewN | apply PA.drew))).size); (case aL => have := HOL.out; have := HZI.out; omega); intro v1 w9 ho hb hg hat; rw [HON.out] at ho; obtain ⟨A9, c9, rfl⟩ := Kd.R_slice ho; have HX := Aside0.mk (PA.app (HTK.out.drewN _) hg ho hb); clear HTK ho hb hg hat htk e0 e1 e5 x0 x1 x2; have e5 := (blk_cell HX.out.o 0).trans (show _ = some (Value.slice A2 outq.length c2) from rfl); have z5 := blk_frozen HX.out.o 0) | ((with_reducible refine gate_store (t := 23) (p := 6) rfl ?_); refine store_event (t := 23) (p := 6) (v := ?vo_w10a) (w1 := (w9.setCell ⟨go, 0, none⟩ (.slice A9 on.length c9))) ?hg ?ho ?hn ?hr ?_; (case ho => rfl); (case hg => rfl); (case hn => rfl); (case hr => first | (go_simp; done) | (go_simp; rfl)); intro w10 hw; have n1_ : Aside0 (PA gw gp ge gf go gt gm w0 want fin (some ad) c P cq Fq (.slice A9 on.length c9) (.slice A9 on.length c9) on w10) := ⟨by rw [hw]; exact HX.out.setO _⟩; clear HX hw e5 z5; have HX := n1_; clear n1_; have e7 := (blk_cell HX.out.t 0).trans (show _ = some (Value.func (.func 23) #[] #[.pointer (some ⟨gw, 0, none⟩), .pointer (some ⟨gp, 0, none⟩), .pointer (some ⟨ge, 0, none⟩), .pointer (some ⟨gf, 0, none⟩), .pointer (some ⟨go, 0, none⟩), .pointer (some ⟨gt, 0, none⟩)]) from rfl)) | (go_at_call 23; go_loud ((with_reducible refine (IH.out (zi + 1) (nx.size : Int) (i + 1) (nx.size : Int) cq Fq (.slice A9 on.length c9) on (true, rF, ro) _ (by have := HZI.out; omega) rfl HX.out HDN.out (by have := HI.out; omega) HQB.out HR1.out).mono ?_); rintro e w11 ⟨rfl, cnt1, v11, hc1, hx1⟩); clear HX e7; have HX := Aside0.mk hx1; have HC1 := Aside0.mk hc1; clear hx1 hc1))
              go_ret
              rw [HRF.out]
              exact ⟨rfl, cnt1, v11, by have := HC1.out; have := HQC.out; omega, HX.out⟩
            | false =>
              go_wp2_with (first | (go_at_call 24; first | ((with_reducible refine (sdiff_joined.calls S p.f0 tu _ HTU.out).mono ?_); rintro e w8 ⟨rfl, ⟨nd, rfl⟩⟩) | ((with_reducible refine (sdiff_joined.calls tu tt nx _ HNX.out).mono ?_); rintro e w8 ⟨rfl, ⟨nd, rfl⟩⟩)) | (go_at_call 26; (with_reducible refine (strings_HasPrefix.calls want nx true _ HBB.out).mono ?_); rintro e w8 ⟨rfl, ⟨nd, rfl⟩⟩) | ((with_reducible refine gate_builtin (b := .append) (xs := #[.tmp 68, .tmp 70]) rfl ?_); at_builtin; refine Kd.R_append Kd.string (w0 := w0) w0.heap.size rfl (.tmp 68) (.tmp 70) 23 9 (.string ⟨#[]⟩) 16 rfl Try.underlying23 info9 rfl (by decide) (by omega) (.slice A2 ol.length c2) ol x [.string x] (fun k => k ≠ gw ∧ k ≠ ge) (fun _ => False) rfl rfl ?aP (fun _ hk => hk.elim) ?aF ?aO ?aB ?aS ?aL ?_; (case aP => exact rfl); (case aB => exact PA.b (by repeat (first | exact HTK.out | apply PA.alloc | apply PA.drewN | apply PA.drew))); (case aF => exact (fun k_ hk => ⟨fun e_ => by have h1 := blk_lt HTK.out.w; have h2 : wc.heap.size ≤ k_ := hk; omega, fun e_ => by have h1 := blk_lt HTK.out.e; have h2 : wc.heap.size ≤ k_ := hk; omega⟩)); (case aO => exact PA.r (by repeat (first | exact HTK.out | apply PA.alloc | apply PA.drewN | apply PA.drew))); (case aS => exact (PA.b (by repeat (first | exact HTK.out | apply PA.alloc | apply PA.drewN | apply PA.drew))).size); (case aL => have := HOL.out; have := HZI.out; omega); intro v1 w9 ho hb hg hat; rw [HON.out] at ho; obtain ⟨A9, c9, rfl⟩ := Kd.R_slice ho; have HX := Aside0.mk (PA.app (HTK.out.drewN _) hg ho hb); clear HTK ho hb hg hat htk e0 e1 e5 x0 x1 x2; have e5 := (blk_cell HX.out.o 0).trans (show _ = some (Value.slice A2 outq.length c2) from rfl); have z5 := blk_frozen HX.out.o 0) | ((with_reducible refine gate_store (t := 23) (p := 6) rfl ?_); refine store_event (t := 23) (p := 6) (v := ?vo_w10b) (w1 := (w9.setCell ⟨go, 0, none⟩ (.slice A9 on.length c9))) ?hg ?ho ?hn ?hr ?_; (case ho => rfl); (case hg => rfl); (case hn => rfl); (case hr => first | (go_simp; done) | (go_simp; rfl)); intro w10 hw; have n1_ : Aside0 (PA gw gp ge gf go gt gm w0 want fin (some ad) c P cq Fq (.slice A9 on.length c9) (.slice A9 on.length c9) on w10) := ⟨by rw [hw]; exact HX.out.setO _⟩; clear HX hw e5 z5; have HX := n1_; clear n1_; have e7 := (blk_cell HX.out.t 0).trans (show _ = some (Value.func (.func 23) #[] #[.pointer (some ⟨gw, 0, none⟩), .pointer (some ⟨gp, 0, none⟩), .pointer (some ⟨ge, 0, none⟩), .pointer (some ⟨gf, 0, none⟩), .pointer (some ⟨go, 0, none⟩), .pointer (some ⟨gt, 0, none⟩)]) from rfl)) | (go_at_call 23; go_loud ((with_reducible refine (IH.out (zi + 1) (nx.size : Int) (i + 1) (nx.size : Int) cq Fq (.slice A9 on.length c9) on (false, rF, ro) _ (by have := HZI.out; omega) rfl HX.out HDN.out (by have := HI.out; omega) HQB.out HR1.out).mono ?_); rintro e w11 ⟨rfl, cnt1, v11, hc1, hx1⟩); clear HX e7; have HX := Aside0.mk hx1; have HC1 := Aside0.mk hc1; clear hx1 hc1))
              have HCS3 : Aside0 (sa_cs want p S i (fun n' F' o' => sa_try want fin ps (i + 1) n' F' o') (sa_lr.drop (z + 1)) rF ro = some Rc) := ⟨by have h := HH.out; rw [if_neg Bool.false_ne_true] at h; exact h⟩
              have HCQ2 : Aside0 (cnt1 + (z + 1) ≤ cnt + (z + 1) * M) := ⟨by have h1 := HCQ.out; have h2 := HC1.out; rw [Nat.succ_mul]; omega⟩
              clear HH HCQ
              go_roundg q1
              case measure => omega
              case rel => exact ⟨z + 1, cnt1, rF, v11, ro, by go_num, by have := HZ.out; omega, HCS3, HCQ2, HX⟩
def sdiff_Answers.f (k : Nat) (l : List S97) (a b : List ByteArray) (want : ByteArray) : Option (List ByteArray × Bool) :=
  (edits_Check.f k l (a.length : Int) (b.length : Int)).bind fun e => if e = 0 then (sdiff_pieces.f k l a b).bind fun q => if q.1.length ≤ 10 ∧ want.size ≤ 1000000000000 then (sa_try want q.2 q.1 0 0 (fun _ _ => false) []).bind fun R => if R.1 = true then some (R.2.2, true) else some ([], false) else none
    else some ([], false)
theorem sa_neP {t : Nat} (ht : t ≠ 74) : ∀ q, q ∈ 74 :: (k74).E → q ≠ t := by
  intro q hq
  have e : (k74).E = [] := rfl
  rw [e] at hq
  simp only [List.mem_cons, List.not_mem_nil, or_false] at hq
  subst hq
  exact Ne.symm ht
theorem sa_pa (want q2 : ByteArray) (q1 : List S74) (R : Bool × (Int → Int → Bool) × List ByteArray) (A : Option Addr) (c gw gp ge gf go gt gm : Nat) (w0 w : World) (hq : q1.length ≤ 10 ∧ want.size ≤ 1000000000000) (h : PA gw gp ge gf go gt gm w0 want q2 A c q1 0 (fun _ _ => false) (.slice none 0 0) (.slice none 0 0) [] w) (hr : sa_try want q2 q1 0 0 (fun _ _ => false) [] = some R) :
    Calls Try.prog 23 #[.int .i64 0, .int .i64 0, .pointer (some ⟨gw, 0, none⟩), .pointer (some ⟨gp, 0, none⟩), .pointer (some ⟨ge, 0, none⟩), .pointer (some ⟨gf, 0, none⟩), .pointer (some ⟨go, 0, none⟩), .pointer (some ⟨gt, 0, none⟩)] w fun e w' => e = .returned (.bool R.1) ∧ ∃ cnt' v', cnt' < 0 + 2 ^ q1.length ∧ PA gw gp ge gf go gt gm w0 want q2 A c q1 cnt' R.2.1 v' v' R.2.2 w' :=
  sdiff_try.calls gw gp ge gf go gt gm w0 want q2 A c q1 hq.2 hq.1 q1 0 0 0 (fun _ _ => false) (.slice none 0 0) [] R w h rfl (Nat.zero_add _) (by
    have h1 : 2 ^ q1.length ≤ 2 ^ 10 := Nat.pow_le_pow_right (by decide) hq.1
    omega) hr
set_option maxHeartbeats 4000000 in
set_option maxRecDepth 100000 in
theorem sdiff_Answers.calls (k : Nat) (A0 : Option Addr) (c0 : Nat) (l0 : List S97) (A1 : Option Addr) (c1 : Nat) (l1 : List ByteArray) (A2 : Option Addr) (c2 : Nat) (l2 : List ByteArray) (want : ByteArray) (r1 : List ByteArray) (r2 : Bool) (w : World) (hr0 : Kd.C k97 w A0 l0.length l0) (hc0 : l0.length ≤ c0) (hr1 : Kd.C Kd.string w A1 l1.length l1) (hc1 : l1.length ≤ c1) (hr2 : Kd.C Kd.string w A2 l2.length l2) (hc2 : l2.length ≤ c2) (h : sdiff_Answers.f k l0 l1 l2 want = some (r1, r2)) :
    Calls Try.prog 7 #[.slice A0 l0.length c0, .slice A1 l1.length c1, .slice A2 l2.length c2, .string want] w fun e w' => ∃ v0_ : Value, e = .returned (.tuple #[v0_, .bool r2]) ∧ Kd.R Kd.string 9 w' w.heap.size (fun _ => True) v0_ r1 ∧ Below w.heap.size w w' := by
  obtain ⟨e, he, h⟩ := Option.bind_eq_some_iff.mp h
  have HR0 := Aside0.mk hr0
  have HC0 := Aside0.mk hc0
  have HR1 := Aside0.mk hr1
  have HC1 := Aside0.mk hc1
  have HR2 := Aside0.mk hr2
  have HC2 := Aside0.mk hc2
  have HE := Aside0.mk he
  have HB := Aside0.mk (Below.refl w.heap.size w)
  have hmm := @run_makeMap Try.prog
  clear hr0 hc0 hr1 hc1 hr2 hc2 he
  by_cases q0 : e = 0
  case neg =>
    rw [if_neg q0] at h
    simp only [Option.some.injEq, Prod.mk.injEq] at h
    obtain ⟨rfl, rfl⟩ := h
    have q0b : (e != 0) = true := bne_iff_ne.mpr q0
    clear q0
    go_enter Try.func7, Try.ntmps7
    go_wp2_with (first | (go_at_call 21; go_loud ((with_reducible refine (edits_Check.calls k A0 c0 l0 _ _ e _ (Kd.C_below HR0.out (by repeat (first | exact Below.refl _ _ | apply below_alloc))) HC0.out HE.out).mono ?_); rintro e' w1 ⟨rfl, hb⟩); have n1_ := Aside0.mk (Below.trans (b := w) (c := w1) (B := w.heap.size) (Below.refl _ _) (Below.trans (below_alloc (Below.refl _ _) _) (hb.mono (below_size (below_alloc (Below.refl _ _) _))))); clear HB hb; have HB := n1_; clear n1_))
    go_ret2
    exact ⟨_, rfl, Kd.R_nil _ _ _ _ _, HB.out⟩
  rw [if_pos q0] at h
  subst q0
  obtain ⟨⟨q1, q2⟩, hq, h⟩ := Option.bind_eq_some_iff.mp h
  by_cases hg : q1.length ≤ 10 ∧ want.size ≤ 1000000000000
  case neg => rw [if_neg hg] at h; cases h
  rw [if_pos hg] at h
  obtain ⟨⟨R1, R2, R3⟩, hr, h⟩ := Option.bind_eq_some_iff.mp h
  have HQ := Aside0.mk hq
  have HG := Aside0.mk hg
  have HR := Aside0.mk hr
  have HH := Aside0.mk h
  clear hq hg hr h
  go_enter Try.func7, Try.ntmps7
  go_upto_region 4 with (first | ((with_reducible refine gate_dst (N := 7) rfl ?_); refine box_event ?hg (N := 7) ?hd (cs := #[.string want]) (t := 9) ?hr ?_; (case hd => rfl); (case hg => rfl); (case hr => first | (go_simp; done) | (go_simp; rfl)); intro gw hg w_gw hbox hb; have G_gw := Aside0.mk (by rw [hg]; exact HB.out.size : w.heap.size ≤ gw); have m0_ := Aside0.mk (below_step HB.out hb); clear HB; have HB := m0_; clear m0_; have BW := Aside0.mk hbox; clear hbox hg hb; have c_gw := (blk_cell BW.out 0).trans (show _ = some (.string want : Value) from rfl); have z_gw := blk_frozen BW.out 0) | (go_at_call 21; go_loud ((with_reducible refine (edits_Check.calls k A0 c0 l0 _ _ 0 _ (Kd.C_below HR0.out HB.out) HC0.out HE.out).mono ?_); rintro e' w1 ⟨rfl, hb⟩); have m0_ := Aside0.mk (blk_below BW.out hb); have m1_ := Aside0.mk (below_step HB.out hb); clear BW HB; have BW := m0_; have HB := m1_; clear m0_ m1_; clear hb) | (go_at_call 22; go_loud ((with_reducible refine (sdiff_pieces.calls k A0 c0 l0 A1 c1 l1 A2 c2 l2 q1 q2 _ (Kd.C_below HR0.out HB.out) HC0.out (Kd.C_below HR1.out HB.out) HC1.out (Kd.C_below HR2.out HB.out) HC2.out HQ.out).mono ?_); rintro e' w2 ⟨v2, rfl, hrp, hb⟩); obtain ⟨A1_, c1_, rfl⟩ := Kd.R_slice hrp; have HRP := Aside0.mk (Kd.R_lower hrp HB.out.size); clear hrp; have m0_ := Aside0.mk (blk_below BW.out hb); have m1_ := Aside0.mk (below_step HB.out hb); clear BW HB; have BW := m0_; have HB := m1_; clear m0_ m1_; clear hb) | ((with_reducible refine gate_dst (N := 10) rfl ?_); refine box_event ?hg (N := 10) ?hd (cs := #[.slice none 0 0]) (t := 62) ?hr ?_; (case hd => rfl); (case hg => rfl); (case hr => first | (go_simp; done) | (go_simp; rfl)); intro gp hg w_gp hbox hb; have G_gp := Aside0.mk (by rw [hg]; exact HB.out.size : w.heap.size ≤ gp); have N_gw_gp := Aside0.mk (show gw ≠ gp by rw [hg]; have := blk_lt BW.out; omega); have m0_ := Aside0.mk (blk_below BW.out hb); have m1_ := Aside0.mk (Kd.R_below HRP.out hb); have m2_ := Aside0.mk (below_step HB.out hb); clear BW HRP HB; have BW := m0_; have HRP := m1_; have HB := m2_; clear m0_ m1_ m2_; have BP0 := Aside0.mk hbox; clear hbox hg hb; have c_gp := (blk_cell BP0.out 0).trans (show _ = some (.slice none 0 0 : Value) from rfl); have z_gp := blk_frozen BP0.out 0) | ((with_reducible refine gate_dst (N := 11) rfl ?_); refine box_event ?hg (N := 11) ?hd (cs := #[.string ⟨#[]⟩]) (t := 9) ?hr ?_; (case hd => rfl); (case hg => rfl); (case hr => first | (go_simp; done) | (go_simp; rfl)); intro ge hg w_ge hbox hb; have G_ge := Aside0.mk (by rw [hg]; exact HB.out.size : w.heap.size ≤ ge); have N_gw_ge := Aside0.mk (show gw ≠ ge by rw [hg]; have := blk_lt BW.out; omega); have N_gp_ge := Aside0.mk (show gp ≠ ge by rw [hg]; have := blk_lt BP0.out; omega); have m0_ := Aside0.mk (blk_below BW.out hb); have m1_ := Aside0.mk (blk_below BP0.out hb); have m2_ := Aside0.mk (Kd.R_below HRP.out hb); have m3_ := Aside0.mk (below_step HB.out hb); clear BW BP0 HRP HB; have BW := m0_; have BP0 := m1_; have HRP := m2_; have HB := m3_; clear m0_ m1_ m2_ m3_; have BE0 := Aside0.mk hbox; clear hbox hg hb; have c_ge := (blk_cell BE0.out 0).trans (show _ = some (.string ⟨#[]⟩ : Value) from rfl); have z_ge := blk_frozen BE0.out 0; have c_gp := (blk_cell BP0.out 0).trans (show _ = some (.slice none 0 0 : Value) from rfl); have z_gp := blk_frozen BP0.out 0) | ((with_reducible refine gate_store (t := 62) (p := 10) rfl ?_); refine store_event (t := 62) (p := 10) (v := ?vo_sp) (w1 := (w_ge.setCell ⟨gp, 0, none⟩ (.slice A1_ q1.length c1_))) ?hg ?ho ?hn ?hr ?_; (case ho => rfl); (case hg => rfl); (case hn => rfl); (case hr => first | (go_simp; done) | (go_simp; rfl)); intro w_sp hw; have m0_ : Aside0 (w_sp.heap[gw]? = some (.cells #[.string want] 9 (0, 0))) := ⟨by rw [hw]; exact blk_far BW.out N_gw_gp.out _⟩; have m1_ : Aside0 (w_sp.heap[gp]? = some (.cells #[.slice A1_ q1.length c1_] 62 (0, 0))) := ⟨by rw [hw]; exact blk_put BP0.out 0 _ rfl⟩; have m2_ : Aside0 (w_sp.heap[ge]? = some (.cells #[.string ⟨#[]⟩] 9 (0, 0))) := ⟨by rw [hw]; exact blk_far BE0.out (Ne.symm N_gp_ge.out) _⟩; have m3_ : Aside0 (Kd.R k74 74 w_sp w.heap.size (fun _ => True) (.slice A1_ q1.length c1_) q1) := ⟨by rw [hw]; exact Kd.R_set HRP.out BP0.out (sa_neP (by decide)) 0 _⟩; have m4_ : Aside0 (Below w.heap.size w w_sp) := ⟨by rw [hw]; exact HB.out.setCell G_gp.out _⟩; clear hw c_gp z_gp BW BP0 BE0 HRP HB; have BW := m0_; have BP := m1_; have BE0 := m2_; have HRP := m3_; have HB := m4_; clear m0_ m1_ m2_ m3_ m4_; have c_ge := (blk_cell BE0.out 0).trans (show _ = some (.string ⟨#[]⟩ : Value) from rfl); have z_ge := blk_frozen BE0.out 0) | ((with_reducible refine gate_store (t := 9) (p := 11) rfl ?_); refine store_event (t := 9) (p := 11) (v := ?vo_se) (w1 := (w_sp.setCell ⟨ge, 0, none⟩ (.string q2))) ?hg ?ho ?hn ?hr ?_; (case ho => rfl); (case hg => rfl); (case hn => rfl); (case hr => first | (go_simp; done) | (go_simp; rfl)); intro w_se hw; have m0_ : Aside0 (w_se.heap[gw]? = some (.cells #[.string want] 9 (0, 0))) := ⟨by rw [hw]; exact blk_far BW.out N_gw_ge.out _⟩; have m1_ : Aside0 (w_se.heap[gp]? = some (.cells #[.slice A1_ q1.length c1_] 62 (0, 0))) := ⟨by rw [hw]; exact blk_far BP.out N_gp_ge.out _⟩; have m2_ : Aside0 (w_se.heap[ge]? = some (.cells #[.string q2] 9 (0, 0))) := ⟨by rw [hw]; exact blk_put BE0.out 0 _ rfl⟩; have m3_ : Aside0 (Kd.R k74 74 w_se w.heap.size (fun _ => True) (.slice A1_ q1.length c1_) q1) := ⟨by rw [hw]; exact Kd.R_set HRP.out BE0.out (sa_neP (by decide)) 0 _⟩; have m4_ : Aside0 (Below w.heap.size w w_se) := ⟨by rw [hw]; exact HB.out.setCell G_ge.out _⟩; clear hw c_ge z_ge BW BP BE0 HRP HB; have BW := m0_; have BP := m1_; have BE := m2_; have HRP := m3_; have HB := m4_; clear m0_ m1_ m2_ m3_ m4_))
  obtain ⟨gm, hgm⟩ : ∃ gm, gm = w_se.heap.size := ⟨_, rfl⟩
  have GM : Aside0 (w.heap.size ≤ gm) := ⟨by rw [hgm]; exact HB.out.size⟩
  have HM : Aside0 (MapS (w_se.alloc (.map #[] 0)) gm 0 (fun _ _ => false)) := ⟨by rw [hgm]; exact MapS.made w_se⟩
  have m0_ := Aside0.mk (blk_below BW.out (below_alloc (Below.refl w_se.heap.size w_se) (.map #[] 0)))
  have m1_ := Aside0.mk (blk_below BP.out (below_alloc (Below.refl w_se.heap.size w_se) (.map #[] 0)))
  have m2_ := Aside0.mk (blk_below BE.out (below_alloc (Below.refl w_se.heap.size w_se) (.map #[] 0)))
  have m3_ := Aside0.mk (Kd.R_below HRP.out (below_alloc (Below.refl w_se.heap.size w_se) (.map #[] 0)))
  have m4_ := Aside0.mk (below_step HB.out (below_alloc (Below.refl w_se.heap.size w_se) (.map #[] 0)))
  clear BW BP BE HRP HB
  have BW := m0_
  have BP := m1_
  have BE := m2_
  have HRP := m3_
  have HB := m4_
  clear m0_ m1_ m2_ m3_ m4_
  go_upto_region 8 with (first | ((with_reducible refine gate_dst (N := 12) rfl ?_); refine box_event ?hg (N := 12) ?hd (cs := #[.map none]) (t := 65) ?hr ?_; (case hd => rfl); (case hg => rfl); (case hr => first | (go_simp; done) | (go_simp; rfl)); intro gf hg w_gf hbox hb; have G_gf := Aside0.mk (by rw [hg]; exact HB.out.size : w.heap.size ≤ gf); have N_gw_gf := Aside0.mk (show gw ≠ gf by rw [hg]; have := blk_lt BW.out; omega); have N_gp_gf := Aside0.mk (show gp ≠ gf by rw [hg]; have := blk_lt BP.out; omega); have N_ge_gf := Aside0.mk (show ge ≠ gf by rw [hg]; have := blk_lt BE.out; omega); have m0_ := Aside0.mk (blk_below BW.out hb); have m1_ := Aside0.mk (blk_below BP.out hb); have m2_ := Aside0.mk (blk_below BE.out hb); have m3_ := Aside0.mk (Kd.R_below HRP.out hb); have m4_ := Aside0.mk (MapS.same HM.out (hb.block gm HM.out.lt)); have m5_ := Aside0.mk (below_step HB.out hb); clear BW BP BE HRP HM HB; have BW := m0_; have BP := m1_; have BE := m2_; have HRP := m3_; have HM := m4_; have HB := m5_; clear m0_ m1_ m2_ m3_ m4_ m5_; have BF0 := Aside0.mk hbox; clear hbox hg hb; have c_gf := (blk_cell BF0.out 0).trans (show _ = some (.map none : Value) from rfl); have z_gf := blk_frozen BF0.out 0) | ((with_reducible refine gate_store (t := 65) (p := 12) rfl ?_); refine store_event (t := 65) (p := 12) (v := ?vo_sf) (w1 := (w_gf.setCell ⟨gf, 0, none⟩ (.map (some gm)))) ?hg ?ho ?hn ?hr ?_; (case ho => rfl); (case hg => rfl); (case hn => rfl); (case hr => first | (go_simp; done) | (go_simp; rfl)); intro w_sf hw; have m0_ : Aside0 (w_sf.heap[gw]? = some (.cells #[.string want] 9 (0, 0))) := ⟨by rw [hw]; exact blk_far BW.out N_gw_gf.out _⟩; have m1_ : Aside0 (w_sf.heap[gp]? = some (.cells #[.slice A1_ q1.length c1_] 62 (0, 0))) := ⟨by rw [hw]; exact blk_far BP.out N_gp_gf.out _⟩; have m2_ : Aside0 (w_sf.heap[ge]? = some (.cells #[.string q2] 9 (0, 0))) := ⟨by rw [hw]; exact blk_far BE.out N_ge_gf.out _⟩; have m3_ : Aside0 (w_sf.heap[gf]? = some (.cells #[.map (some gm)] 65 (0, 0))) := ⟨by rw [hw]; exact blk_put BF0.out 0 _ rfl⟩; have m4_ : Aside0 (Kd.R k74 74 w_sf w.heap.size (fun _ => True) (.slice A1_ q1.length c1_) q1) := ⟨by rw [hw]; exact Kd.R_set HRP.out BF0.out (sa_neP (by decide)) 0 _⟩; have m5_ : Aside0 (MapS w_sf gm 0 (fun _ _ => false)) := ⟨by rw [hw]; exact HM.out.set (HM.out.ne BF0.out) _⟩; have m6_ : Aside0 (Below w.heap.size w w_sf) := ⟨by rw [hw]; exact HB.out.setCell G_gf.out _⟩; clear hw c_gf z_gf BW BP BE BF0 HRP HM HB; have BW := m0_; have BP := m1_; have BE := m2_; have BF := m3_; have HRP := m4_; have HM := m5_; have HB := m6_; clear m0_ m1_ m2_ m3_ m4_ m5_ m6_) | ((with_reducible refine gate_dst (N := 13) rfl ?_); refine box_event ?hg (N := 13) ?hd (cs := #[.slice none 0 0]) (t := 23) ?hr ?_; (case hd => rfl); (case hg => rfl); (case hr => first | (go_simp; done) | (go_simp; rfl)); intro go hg w_go hbox hb; have G_go := Aside0.mk (by rw [hg]; exact HB.out.size : w.heap.size ≤ go); have N_gw_go := Aside0.mk (show gw ≠ go by rw [hg]; have := blk_lt BW.out; omega); have N_gp_go := Aside0.mk (show gp ≠ go by rw [hg]; have := blk_lt BP.out; omega); have N_ge_go := Aside0.mk (show ge ≠ go by rw [hg]; have := blk_lt BE.out; omega); have N_gf_go := Aside0.mk (show gf ≠ go by rw [hg]; have := blk_lt BF.out; omega); have m0_ := Aside0.mk (blk_below BW.out hb); have m1_ := Aside0.mk (blk_below BP.out hb); have m2_ := Aside0.mk (blk_below BE.out hb); have m3_ := Aside0.mk (blk_below BF.out hb); have m4_ := Aside0.mk (Kd.R_below HRP.out hb); have m5_ := Aside0.mk (MapS.same HM.out (hb.block gm HM.out.lt)); have m6_ := Aside0.mk (below_step HB.out hb); clear BW BP BE BF HRP HM HB; have BW := m0_; have BP := m1_; have BE := m2_; have BF := m3_; have HRP := m4_; have HM := m5_; have HB := m6_; clear m0_ m1_ m2_ m3_ m4_ m5_ m6_; have BO := Aside0.mk hbox; clear hbox hg hb; have c_go := (blk_cell BO.out 0).trans (show _ = some (.slice none 0 0 : Value) from rfl); have z_go := blk_frozen BO.out 0) | ((with_reducible refine gate_dst (N := 14) rfl ?_); refine box_event ?hg (N := 14) ?hd (cs := #[.nilFunc]) (t := 66) ?hr ?_; (case hd => rfl); (case hg => rfl); (case hr => first | (go_simp; done) | (go_simp; rfl)); intro gt hg w_gt hbox hb; have G_gt := Aside0.mk (by rw [hg]; exact HB.out.size : w.heap.size ≤ gt); have N_gw_gt := Aside0.mk (show gw ≠ gt by rw [hg]; have := blk_lt BW.out; omega); have N_gp_gt := Aside0.mk (show gp ≠ gt by rw [hg]; have := blk_lt BP.out; omega); have N_ge_gt := Aside0.mk (show ge ≠ gt by rw [hg]; have := blk_lt BE.out; omega); have N_gf_gt := Aside0.mk (show gf ≠ gt by rw [hg]; have := blk_lt BF.out; omega); have N_go_gt := Aside0.mk (show go ≠ gt by rw [hg]; have := blk_lt BO.out; omega); have m0_ := Aside0.mk (blk_below BW.out hb); have m1_ := Aside0.mk (blk_below BP.out hb); have m2_ := Aside0.mk (blk_below BE.out hb); have m3_ := Aside0.mk (blk_below BF.out hb); have m4_ := Aside0.mk (blk_below BO.out hb); have m5_ := Aside0.mk (Kd.R_below HRP.out hb); have m6_ := Aside0.mk (MapS.same HM.out (hb.block gm HM.out.lt)); have m7_ := Aside0.mk (below_step HB.out hb); clear BW BP BE BF BO HRP HM HB; have BW := m0_; have BP := m1_; have BE := m2_; have BF := m3_; have BO := m4_; have HRP := m5_; have HM := m6_; have HB := m7_; clear m0_ m1_ m2_ m3_ m4_ m5_ m6_ m7_; have BT0 := Aside0.mk hbox; clear hbox hg hb; have c_gt := (blk_cell BT0.out 0).trans (show _ = some (.nilFunc : Value) from rfl); have z_gt := blk_frozen BT0.out 0; have hst : (store ⟨gt, 0, none⟩ (.func (.func 23) #[] #[.pointer (some ⟨gw, 0, none⟩), .pointer (some ⟨gp, 0, none⟩), .pointer (some ⟨ge, 0, none⟩), .pointer (some ⟨gf, 0, none⟩), .pointer (some ⟨go, 0, none⟩), .pointer (some ⟨gt, 0, none⟩)])).run Try.prog w_gt = .ok () (w_gt.setCell ⟨gt, 0, none⟩ (.func (.func 23) #[] #[.pointer (some ⟨gw, 0, none⟩), .pointer (some ⟨gp, 0, none⟩), .pointer (some ⟨ge, 0, none⟩), .pointer (some ⟨gf, 0, none⟩), .pointer (some ⟨go, 0, none⟩), .pointer (some ⟨gt, 0, none⟩)])) := (by (rw [run_store _ _ _ _ _ rfl, c_gt]; simp [z_gt]))))
  obtain ⟨w_st, hw⟩ : ∃ y, w_gt.setCell ⟨gt, 0, none⟩ (.func (.func 23) #[] #[.pointer (some ⟨gw, 0, none⟩), .pointer (some ⟨gp, 0, none⟩), .pointer (some ⟨ge, 0, none⟩), .pointer (some ⟨gf, 0, none⟩), .pointer (some ⟨go, 0, none⟩), .pointer (some ⟨gt, 0, none⟩)]) = y := ⟨_, rfl⟩
  rw [hw]
  clear hst
  have m0_ : Aside0 (w_st.heap[gw]? = some (.cells #[.string want] 9 (0, 0))) := ⟨by rw [← hw]; exact blk_far BW.out N_gw_gt.out _⟩
  have m1_ : Aside0 (w_st.heap[gp]? = some (.cells #[.slice A1_ q1.length c1_] 62 (0, 0))) := ⟨by rw [← hw]; exact blk_far BP.out N_gp_gt.out _⟩
  have m2_ : Aside0 (w_st.heap[ge]? = some (.cells #[.string q2] 9 (0, 0))) := ⟨by rw [← hw]; exact blk_far BE.out N_ge_gt.out _⟩
  have m3_ : Aside0 (w_st.heap[gf]? = some (.cells #[.map (some gm)] 65 (0, 0))) := ⟨by rw [← hw]; exact blk_far BF.out N_gf_gt.out _⟩
  have m4_ : Aside0 (w_st.heap[go]? = some (.cells #[.slice none 0 0] 23 (0, 0))) := ⟨by rw [← hw]; exact blk_far BO.out N_go_gt.out _⟩
  have m5_ : Aside0 (w_st.heap[gt]? = some (.cells #[(.func (.func 23) #[] #[.pointer (some ⟨gw, 0, none⟩), .pointer (some ⟨gp, 0, none⟩), .pointer (some ⟨ge, 0, none⟩), .pointer (some ⟨gf, 0, none⟩), .pointer (some ⟨go, 0, none⟩), .pointer (some ⟨gt, 0, none⟩)])] 66 (0, 0))) := ⟨by rw [← hw]; exact blk_put BT0.out 0 _ rfl⟩
  have m6_ : Aside0 (Kd.R k74 74 w_st w.heap.size (fun _ => True) (.slice A1_ q1.length c1_) q1) := ⟨by rw [← hw]; exact Kd.R_set HRP.out BT0.out (sa_neP (by decide)) 0 _⟩
  have m7_ : Aside0 (MapS w_st gm 0 (fun _ _ => false)) := ⟨by rw [← hw]; exact HM.out.set (HM.out.ne BT0.out) _⟩
  have m8_ : Aside0 (Below w.heap.size w w_st) := ⟨by rw [← hw]; exact HB.out.setCell G_gt.out _⟩
  clear hw c_gt z_gt BW BP BE BF BO BT0 HRP HM HB
  have BW := m0_
  have BP := m1_
  have BE := m2_
  have BF := m3_
  have BO := m4_
  have BT := m5_
  have HRP := m6_
  have HM := m7_
  have HB := m8_
  clear m0_ m1_ m2_ m3_ m4_ m5_ m6_ m7_ m8_
  have HX : Aside0 (PA gw gp ge gf go gt gm w want q2 A1_ c1_ q1 0 (fun _ _ => false) (.slice none 0 0) (.slice none 0 0) [] w_st) := ⟨⟨BW.out, BP.out, BE.out, BF.out, BO.out, BT.out, HM.out, Kd.R_nil _ _ _ _ _, HRP.out, HB.out, G_go.out, GM.out⟩⟩
  clear BW BP BE BF BO BT HM HRP HB
  have e7 := (blk_cell HX.out.t 0).trans (show _ = some (Value.func (.func 23) #[] #[.pointer (some ⟨gw, 0, none⟩), .pointer (some ⟨gp, 0, none⟩), .pointer (some ⟨ge, 0, none⟩), .pointer (some ⟨gf, 0, none⟩), .pointer (some ⟨go, 0, none⟩), .pointer (some ⟨gt, 0, none⟩)]) from rfl)
  cases R1 with
  | true =>
    have hh := HH.out
    rw [if_pos rfl] at hh
    simp only [Option.some.injEq, Prod.mk.injEq] at hh
    obtain ⟨rfl, rfl⟩ := hh
    go_wp2_with (first | (go_at_call 23; go_loud ((with_reducible refine (sa_pa want q2 q1 (true, R2, R3) A1_ c1_ gw gp ge gf go gt gm w _ HG.out HX.out HR.out).mono ?_); rintro e' w9 ⟨rfl, cnt9, v9, hc9, hx9⟩); clear HX e7 hc9; obtain ⟨A9, c9, rfl⟩ := Kd.R_slice hx9.r; have HX := Aside0.mk hx9; clear hx9; have e5 := (blk_cell HX.out.o 0).trans (show _ = some (Value.slice A9 R3.length c9) from rfl)))
    go_ret2
    exact ⟨_, rfl, Kd.R_mono HX.out.r (fun _ _ => trivial), HX.out.b⟩
  | false =>
    have hh := HH.out
    rw [if_neg Bool.false_ne_true] at hh
    simp only [Option.some.injEq, Prod.mk.injEq] at hh
    obtain ⟨rfl, rfl⟩ := hh
    go_wp2_with (first | (go_at_call 23; go_loud ((with_reducible refine (sa_pa want q2 q1 (false, R2, R3) A1_ c1_ gw gp ge gf go gt gm w _ HG.out HX.out HR.out).mono ?_); rintro e' w9 ⟨rfl, cnt9, v9, hc9, hx9⟩); clear HX e7 hc9; have HX := Aside0.mk hx9; clear hx9))
    go_ret2
    exact ⟨_, rfl, Kd.R_nil _ _ _ _ _, HX.out.b⟩
end Go.Proofs.Ytglffceopijogaa.X
