import Derived.Test.YtmnajajnbmlihaaZMXx0
import Derived.Deep.OwnRows
namespace Go.Proofs.Ytmnajajnbmlihaa.X
open Go.RowKit Go.Proofs.YtmnajajnbmlihaaW.PrintWords Go.Proofs.YtmnajajnbmlihaaW.PrintLast Go.Proofs.YtmnajajnbmlihaaW.PrintMore
attribute [local go_sem] max2_int min2_int max_two min_two max_three min_three max_four min_four   -- for this text's walks alone
open Go.Proofs.YtmnajajnbmlihaaW.HandWords
set_option linter.unusedVariables false
set_option linter.unusedSimpArgs false
def ho_lay (sign : Int) : List ByteArray → Int → Int → List S46 → Int × Int × List S46
  | [], an, bn, ms => (an, bn, ms)
  | s :: l, an, bn, ms => ho_lay sign l (if sign = 43 then an else wrap64 (an + 1)) (if sign = 45 then bn else wrap64 (bn + 1)) (ms ++ [⟨sign, s⟩])
structure Hx (gh : Nat) (w0 : World) (a an b bn : Int) (v vr : Value) (ms : List S46) (W : World) : Prop where
  h : W.heap[gh]? = some (.cells #[.int .i64 a, .int .i64 an, .int .i64 b, .int .i64 bn, v] 39 (0, 0))
  r : Kd.R k46 46 W w0.heap.size (fun _ => True) vr ms
  b : Below w0.heap.size w0 W
  g : w0.heap.size ≤ gh
section
variable {gh : Nat} {w0 : World} {a an b bn : Int} {v vr : Value} {ms : List S46} {W : World}
theorem Hx.set1 (h : Hx gh w0 a an b bn v vr ms W) (x : Int) : Hx gh w0 a x b bn v vr ms (W.setCell ⟨gh, 1, none⟩ (.int .i64 x)) := ⟨blk_put h.h 1 _ rfl, Kd.R_set h.r h.h (by decide) 1 _, h.b.setCell h.g _, h.g⟩
theorem Hx.set3 (h : Hx gh w0 a an b bn v vr ms W) (x : Int) : Hx gh w0 a an b x v vr ms (W.setCell ⟨gh, 3, none⟩ (.int .i64 x)) := ⟨blk_put h.h 3 _ rfl, Kd.R_set h.r h.h (by decide) 3 _, h.b.setCell h.g _, h.g⟩
theorem Hx.set4 (h : Hx gh w0 a an b bn v vr ms W) (x : Value) : Hx gh w0 a an b bn x vr ms (W.setCell ⟨gh, 4, none⟩ x) := ⟨blk_put h.h 4 _ rfl, Kd.R_set h.r h.h (by decide) 4 _, h.b.setCell h.g _, h.g⟩
end
def Fr (gh : Nat) (w w' : World) : Prop := ∀ (g' : Nat) (cs : Array Value) (t : TypeId), g' ≠ gh → t ≠ 46 → w.heap[g']? = some (.cells cs t (0, 0)) → w'.heap[g']? = some (.cells cs t (0, 0))
theorem Fr.set {gh : Nat} {w W : World} (h : Fr gh w W) (i : Nat) (u : Value) : Fr gh w (W.setCell ⟨gh, i, none⟩ u) := fun g' cs t h1 h2 h3 => blk_far (h g' cs t h1 h2 h3) h1 _
theorem Fr.grown {gh base : Nat} {w W w1 : World} {ok : Nat → Prop} {v : Value} {ms : List S46} (h : Fr gh w W) (hr : Kd.R k46 46 W base ok v ms) (hg : W.grownBy w1 v.ownBlock) : Fr gh w w1 := fun g' cs t h1 h2 h3 => blk_grown (h g' cs t h1 h2 h3) hg (Kd.R_ne hr (h g' cs t h1 h2 h3) (Ne.symm h2))
set_option maxHeartbeats 2000000 in
set_option maxRecDepth 100000 in
theorem hunks_one_1.calls (sign : Int) (hs : sign = 32 ∨ sign = 43 ∨ sign = 45) (A1 : Option Addr) (c1 : Nat) (l1 : List ByteArray) (gh : Nat) (w0 : World) (a b an bn : Int) (v : Value) (ms : List S46) (R : Int × Int × List S46) (w : World) (hx : Hx gh w0 a an b bn v v ms w)
    (hr1 : Kd.C Kd.string w0 A1 l1.length l1) (hlim : (ms.length + l1.length) * 24 ≤ 140737488355328) (hR : ho_lay sign l1 an bn ms = R) :
    Calls Try.prog 43 #[.int .u8 sign, .slice A1 l1.length c1, .pointer (some ⟨gh, 0, none⟩)] w fun e w' => e = .returned (.tuple #[]) ∧ (∃ v', Hx gh w0 a R.1 b R.2.1 v' v' R.2.2 w') ∧ Fr gh w w' := by
  have HX := Aside0.mk hx
  have HR1 := Aside0.mk hr1
  have HF := Aside0.mk (show Fr gh w w from fun _ _ _ _ _ h => h)
  have HL := Aside0.mk hlim
  have HLN := Aside0.mk (show l1.length ≤ 5864062014806 by omega)
  have HH := Aside0.mk hR
  have HS := Aside0.mk hs
  have sg0 : (Lit.int .u8 sign).wf = true := by rcases hs with h | h | h <;> subst h <;> decide
  obtain ⟨t43, ht43⟩ : ∃ t : Bool, (sign == 43) = t := ⟨_, rfl⟩
  obtain ⟨t45, ht45⟩ : ∃ t : Bool, (sign == 45) = t := ⟨_, rfl⟩
  clear hx hr1 hlim hR hs
  go_enter Try.func43, Try.ntmps43
  go_wp2
  go_loopg [9] l1.length (fun q v9 w' => ∃ (z an bn : Int) (v : Value) (ms : List S46), v9 = .int .i64 z ∧ 0 ≤ z ∧ z ≤ 10000000000000 ∧ Aside0 (z + (q : Int) = l1.length ∧ (ms.length + q) * 24 ≤ 140737488355328) ∧ Aside0 (ho_lay sign (l1.drop z.toNat) an bn ms = R) ∧ Aside0 (Hx gh w0 a an b bn v v ms w') ∧ Aside0 (Fr gh w w'))
  case atStart =>
    exact ⟨0, an, bn, v, ms, rfl, by omega, by omega, ⟨by omega, HL.out⟩, ⟨by rw [show (0 : Int).toNat = 0 from rfl, List.drop_zero]; exact HH.out⟩, HX, HF⟩
  case round =>
    clear HH HX HL HF
    obtain ⟨z, an, bn, v, ms, rfl, hz1, hz2, HZ, HH, HX, HF⟩ := hrel
    cases gk with
    | zero =>
      have hzl : z = (l1.length : Int) := by have := HZ.out.1; omega
      subst hzl
      have hp : ((l1.length : Int) < (l1.length : Int)) = False := eq_false (Int.lt_irrefl _)
      have h := HH.out
      rw [Int.toNat_natCast, List.drop_length, ho_lay] at h
      subst h
      go_wp2
      go_end0
      exact ⟨rfl, ⟨v, HX.out⟩, HF.out⟩
    | succ q1 =>
      have hzl : decide (z < (l1.length : Int)) = true := decide_eq_true (by have := HZ.out.1; omega)
      have hz3 := of_decide_eq_true hzl
      obtain ⟨ad0, ea0, hx0⟩ := Kd.at_string HR1.out z hz1 hz3
      cases ea0
      have hxs := (HX.out.b.cell (World.block_lt_of_cell? w0 _ hx0)).trans hx0
      have p1 := eq_true hz1
      have p2 := eq_true hz3
      have f4 := (blk_cell HX.out.h 4).trans (show _ = some v from rfl)
      have z4 := blk_frozen HX.out.h 4
      have hd : l1.drop z.toNat = rdOf ByteArray.empty l1 z :: l1.drop (z + 1).toNat := by
        rw [show (z + 1).toNat = z.toNat + 1 by omega, List.drop_eq_getElem_cons (by omega)]
        simp [rdOf, List.getD_eq_getElem?_getD, show z.toNat < l1.length by omega]
      have hw : wrap64 (z + 1) = z + 1 := by unfold wrap64; omega
      have HW := Aside0.mk hw
      obtain ⟨s, hs⟩ : ∃ s, rdOf ByteArray.empty l1 z = s := ⟨_, rfl⟩
      have HH2 : Aside0 (ho_lay sign (s :: l1.drop (z + 1).toNat) an bn ms = R) := ⟨by have h := HH.out; rw [hd, hs] at h; exact h⟩
      rw [hs] at hxs
      clear hd hw hx0 hz3 HH hs
      clear ht43 ht45
      rcases HS.out with h | h | h
      · subst h
        go_wp2_with (first | ((with_reducible refine gate_builtin (b := .append) (xs := #[.tmp 14, .tmp 18]) rfl ?_); at_builtin; refine Kd.R_append k46 (w0 := w0) w0.heap.size rfl (.tmp 14) (.tmp 18) 37 46 (.agg #[(.int .u8 0), (.string ⟨#[]⟩)]) 24 rfl Try.underlying37 info46 rfl (by decide) (by omega) v ms (⟨32, s⟩ : S46) [.int .u8 32, .string s] (fun _ => True) (fun _ => False) rfl rfl ?aP (fun _ hk => hk.elim) ?aF ?aO ?aB ?aS ?aL ?_; (case aP => exact k46_mkM _ _ _ (⟨32, s⟩ : S46)); (case aB => exact HX.out.b); (case aF => exact (fun _ _ => trivial)); (case aO => exact HX.out.r); (case aS => exact HX.out.b.size); (case aL => have := HZ.out.2; omega); intro v1 w1 ho hb hg hat; obtain ⟨A2, cc1, rfl⟩ := Kd.R_slice ho; rw [show (ms ++ [(⟨32, s⟩ : S46)]).length = ms.length + 1 from by simp] at ho; have n1_ := Aside0.mk (Hx.mk (blk_grown HX.out.h hg (Kd.R_ne HX.out.r HX.out.h (by decide))) ho hb HX.out.g); have n2_ := Aside0.mk (HF.out.grown HX.out.r hg); clear HX HF f4 z4 ho hb hg hat; have HX := n1_; have HF := n2_; clear n1_ n2_; have f4 := (blk_cell HX.out.h 4).trans (show _ = some v from rfl); have z4 := blk_frozen HX.out.h 4) | ((with_reducible refine gate_store (t := 37) (p := 20) rfl ?_); refine store_event (t := 37) (p := 20) (v := ?vo_w2) (w1 := (w1.setCell ⟨gh, 4, none⟩ (.slice A2 (ms.length + 1) cc1))) ?hg ?ho ?hn ?hr ?_; (case ho => rfl); (case hg => rfl); (case hn => rfl); (case hr => first | (go_simp; done) | (go_simp; rfl)); intro w2 hw; have n1_ := Aside0.mk (HX.out.set4 (.slice A2 (ms.length + 1) cc1)); have n2_ := Aside0.mk (HF.out.set 4 (.slice A2 (ms.length + 1) cc1)); rw [← hw] at n1_ n2_; clear HX HF hw f4 z4; have HX := n1_; have HF := n2_; clear n1_ n2_; (try clear f1 z1); have f1 := (blk_cell HX.out.h 1).trans (show _ = some (Value.int .i64 an) from rfl); have z1 := blk_frozen HX.out.h 1; (try clear f3 z3); have f3 := (blk_cell HX.out.h 3).trans (show _ = some (Value.int .i64 bn) from rfl); have z3 := blk_frozen HX.out.h 3) | ((with_reducible refine gate_store (t := 3) (p := 26) rfl ?_); refine store_event (t := 3) (p := 26) (v := ?vo_w3) (w1 := (w2.setCell ⟨gh, 1, none⟩ (.int .i64 (wrap64 (an + 1))))) ?hg ?ho ?hn ?hr ?_; (case ho => rfl); (case hg => rfl); (case hn => rfl); (case hr => first | (go_simp; done) | (go_simp; rfl)); intro w3 hw; have n1_ := Aside0.mk (HX.out.set1 (wrap64 (an + 1))); have n2_ := Aside0.mk (HF.out.set 1 (.int .i64 (wrap64 (an + 1)))); rw [← hw] at n1_ n2_; clear HX HF hw f1 z1; have HX := n1_; have HF := n2_; clear n1_ n2_; (try clear f3 z3); have f3 := (blk_cell HX.out.h 3).trans (show _ = some (Value.int .i64 bn) from rfl); have z3 := blk_frozen HX.out.h 3) | ((with_reducible refine gate_store (t := 3) (p := 32) rfl ?_); refine store_event (t := 3) (p := 32) (v := ?vo_w4) (w1 := (w3.setCell ⟨gh, 3, none⟩ (.int .i64 (wrap64 (bn + 1))))) ?hg ?ho ?hn ?hr ?_; (case ho => rfl); (case hg => rfl); (case hn => rfl); (case hr => first | (go_simp; done) | (go_simp; rfl)); intro w4 hw; have n1_ := Aside0.mk (HX.out.set3 (wrap64 (bn + 1))); have n2_ := Aside0.mk (HF.out.set 3 (.int .i64 (wrap64 (bn + 1)))); rw [← hw] at n1_ n2_; clear HX HF hw f3 z3; have HX := n1_; have HF := n2_; clear n1_ n2_))
        go_roundg q1
        case measure => omega
        case rel => exact ⟨z + 1, (wrap64 (an + 1)), (wrap64 (bn + 1)), _, ms ++ [⟨32, s⟩], by go_num, by omega, by have := HZ.out.1; have := HLN.out; omega, ⟨by have := HZ.out.1; omega, by have := HZ.out.2; rw [List.length_append, List.length_singleton]; omega⟩, ⟨by have h := HH2.out; rw [ho_lay] at h; simp only [if_neg (show ¬ (32 : Int) = 43 by decide), if_neg (show ¬ (32 : Int) = 45 by decide)] at h; exact h⟩, HX, HF⟩
      · subst h
        go_wp2_with (first | ((with_reducible refine gate_builtin (b := .append) (xs := #[.tmp 14, .tmp 18]) rfl ?_); at_builtin; refine Kd.R_append k46 (w0 := w0) w0.heap.size rfl (.tmp 14) (.tmp 18) 37 46 (.agg #[(.int .u8 0), (.string ⟨#[]⟩)]) 24 rfl Try.underlying37 info46 rfl (by decide) (by omega) v ms (⟨43, s⟩ : S46) [.int .u8 43, .string s] (fun _ => True) (fun _ => False) rfl rfl ?aP (fun _ hk => hk.elim) ?aF ?aO ?aB ?aS ?aL ?_; (case aP => exact k46_mkM _ _ _ (⟨43, s⟩ : S46)); (case aB => exact HX.out.b); (case aF => exact (fun _ _ => trivial)); (case aO => exact HX.out.r); (case aS => exact HX.out.b.size); (case aL => have := HZ.out.2; omega); intro v1 w1 ho hb hg hat; obtain ⟨A2, cc1, rfl⟩ := Kd.R_slice ho; rw [show (ms ++ [(⟨43, s⟩ : S46)]).length = ms.length + 1 from by simp] at ho; have n1_ := Aside0.mk (Hx.mk (blk_grown HX.out.h hg (Kd.R_ne HX.out.r HX.out.h (by decide))) ho hb HX.out.g); have n2_ := Aside0.mk (HF.out.grown HX.out.r hg); clear HX HF f4 z4 ho hb hg hat; have HX := n1_; have HF := n2_; clear n1_ n2_; have f4 := (blk_cell HX.out.h 4).trans (show _ = some v from rfl); have z4 := blk_frozen HX.out.h 4) | ((with_reducible refine gate_store (t := 37) (p := 20) rfl ?_); refine store_event (t := 37) (p := 20) (v := ?vo_w2) (w1 := (w1.setCell ⟨gh, 4, none⟩ (.slice A2 (ms.length + 1) cc1))) ?hg ?ho ?hn ?hr ?_; (case ho => rfl); (case hg => rfl); (case hn => rfl); (case hr => first | (go_simp; done) | (go_simp; rfl)); intro w2 hw; have n1_ := Aside0.mk (HX.out.set4 (.slice A2 (ms.length + 1) cc1)); have n2_ := Aside0.mk (HF.out.set 4 (.slice A2 (ms.length + 1) cc1)); rw [← hw] at n1_ n2_; clear HX HF hw f4 z4; have HX := n1_; have HF := n2_; clear n1_ n2_; (try clear f1 z1); have f1 := (blk_cell HX.out.h 1).trans (show _ = some (Value.int .i64 an) from rfl); have z1 := blk_frozen HX.out.h 1; (try clear f3 z3); have f3 := (blk_cell HX.out.h 3).trans (show _ = some (Value.int .i64 bn) from rfl); have z3 := blk_frozen HX.out.h 3) | ((with_reducible refine gate_store (t := 3) (p := 32) rfl ?_); refine store_event (t := 3) (p := 32) (v := ?vo_w4) (w1 := (w2.setCell ⟨gh, 3, none⟩ (.int .i64 (wrap64 (bn + 1))))) ?hg ?ho ?hn ?hr ?_; (case ho => rfl); (case hg => rfl); (case hn => rfl); (case hr => first | (go_simp; done) | (go_simp; rfl)); intro w4 hw; have n1_ := Aside0.mk (HX.out.set3 (wrap64 (bn + 1))); have n2_ := Aside0.mk (HF.out.set 3 (.int .i64 (wrap64 (bn + 1)))); rw [← hw] at n1_ n2_; clear HX HF hw f3 z3; have HX := n1_; have HF := n2_; clear n1_ n2_))
        go_roundg q1
        case measure => omega
        case rel => exact ⟨z + 1, an, (wrap64 (bn + 1)), _, ms ++ [⟨43, s⟩], by go_num, by omega, by have := HZ.out.1; have := HLN.out; omega, ⟨by have := HZ.out.1; omega, by have := HZ.out.2; rw [List.length_append, List.length_singleton]; omega⟩, ⟨by have h := HH2.out; rw [ho_lay] at h; simp only [if_pos rfl, if_neg (show ¬ (43 : Int) = 45 by decide)] at h; exact h⟩, HX, HF⟩
      · subst h
        go_wp2_with (first | ((with_reducible refine gate_builtin (b := .append) (xs := #[.tmp 14, .tmp 18]) rfl ?_); at_builtin; refine Kd.R_append k46 (w0 := w0) w0.heap.size rfl (.tmp 14) (.tmp 18) 37 46 (.agg #[(.int .u8 0), (.string ⟨#[]⟩)]) 24 rfl Try.underlying37 info46 rfl (by decide) (by omega) v ms (⟨45, s⟩ : S46) [.int .u8 45, .string s] (fun _ => True) (fun _ => False) rfl rfl ?aP (fun _ hk => hk.elim) ?aF ?aO ?aB ?aS ?aL ?_; (case aP => exact k46_mkM _ _ _ (⟨45, s⟩ : S46)); (case aB => exact HX.out.b); (case aF => exact (fun _ _ => trivial)); (case aO => exact HX.out.r); (case aS => exact HX.out.b.size); (case aL => have := HZ.out.2; omega); intro v1 w1 ho hb hg hat; obtain ⟨A2, cc1, rfl⟩ := Kd.R_slice ho; rw [show (ms ++ [(⟨45, s⟩ : S46)]).length = ms.length + 1 from by simp] at ho; have n1_ := Aside0.mk (Hx.mk (blk_grown HX.out.h hg (Kd.R_ne HX.out.r HX.out.h (by decide))) ho hb HX.out.g); have n2_ := Aside0.mk (HF.out.grown HX.out.r hg); clear HX HF f4 z4 ho hb hg hat; have HX := n1_; have HF := n2_; clear n1_ n2_; have f4 := (blk_cell HX.out.h 4).trans (show _ = some v from rfl); have z4 := blk_frozen HX.out.h 4) | ((with_reducible refine gate_store (t := 37) (p := 20) rfl ?_); refine store_event (t := 37) (p := 20) (v := ?vo_w2) (w1 := (w1.setCell ⟨gh, 4, none⟩ (.slice A2 (ms.length + 1) cc1))) ?hg ?ho ?hn ?hr ?_; (case ho => rfl); (case hg => rfl); (case hn => rfl); (case hr => first | (go_simp; done) | (go_simp; rfl)); intro w2 hw; have n1_ := Aside0.mk (HX.out.set4 (.slice A2 (ms.length + 1) cc1)); have n2_ := Aside0.mk (HF.out.set 4 (.slice A2 (ms.length + 1) cc1)); rw [← hw] at n1_ n2_; clear HX HF hw f4 z4; have HX := n1_; have HF := n2_; clear n1_ n2_; (try clear f1 z1); have f1 := (blk_cell HX.out.h 1).trans (show _ = some (Value.int .i64 an) from rfl); have z1 := blk_frozen HX.out.h 1; (try clear f3 z3); have f3 := (blk_cell HX.out.h 3).trans (show _ = some (Value.int .i64 bn) from rfl); have z3 := blk_frozen HX.out.h 3) | ((with_reducible refine gate_store (t := 3) (p := 26) rfl ?_); refine store_event (t := 3) (p := 26) (v := ?vo_w3) (w1 := (w2.setCell ⟨gh, 1, none⟩ (.int .i64 (wrap64 (an + 1))))) ?hg ?ho ?hn ?hr ?_; (case ho => rfl); (case hg => rfl); (case hn => rfl); (case hr => first | (go_simp; done) | (go_simp; rfl)); intro w3 hw; have n1_ := Aside0.mk (HX.out.set1 (wrap64 (an + 1))); have n2_ := Aside0.mk (HF.out.set 1 (.int .i64 (wrap64 (an + 1)))); rw [← hw] at n1_ n2_; clear HX HF hw f1 z1; have HX := n1_; have HF := n2_; clear n1_ n2_; (try clear f3 z3); have f3 := (blk_cell HX.out.h 3).trans (show _ = some (Value.int .i64 bn) from rfl); have z3 := blk_frozen HX.out.h 3))
        go_roundg q1
        case measure => omega
        case rel => exact ⟨z + 1, (wrap64 (an + 1)), bn, _, ms ++ [⟨45, s⟩], by go_num, by omega, by have := HZ.out.1; have := HLN.out; omega, ⟨by have := HZ.out.1; omega, by have := HZ.out.2; rw [List.length_append, List.length_singleton]; omega⟩, ⟨by have h := HH2.out; rw [ho_lay] at h; simp only [if_neg (show ¬ (45 : Int) = 43 by decide), if_pos rfl] at h; exact h⟩, HX, HF⟩
def ho_cut (l : List ByteArray) (a b : Int) : List ByteArray := (l.take b.toNat).drop a.toNat
def ho_on (sign : Int) (l : List ByteArray) (h : Int × Int × List S46) : Int × Int × List S46 := ho_lay sign l h.1 h.2.1 h.2.2
def ho_step (a b : List ByteArray) (c : S35) (at_ an bn : Int) (ms : List S46) : Int × Int × List S46 :=
  ho_on 43 (ho_cut b c.f2 (c.f2 + c.f3)) (ho_on 45 (ho_cut a c.f0 (c.f0 + c.f1)) (ho_on 32 (ho_cut a at_ c.f0) (an, bn, ms)))
def ho_go (a b : List ByteArray) : List S35 → Int → Int → Int → List S46 → Option (Int × Int × Int × List S46)
  | [], at_, an, bn, ms => some (at_, an, bn, ms)
  | c :: g, at_, an, bn, ms =>
    if 0 ≤ at_ ∧ at_ ≤ c.f0 ∧ 0 ≤ c.f1 ∧ c.f0 + c.f1 ≤ (a.length : Int) ∧ c.f0 + c.f1 ≤ 100000000000 ∧ 0 ≤ c.f2 ∧ 0 ≤ c.f3 ∧ c.f2 + c.f3 ≤ (b.length : Int) ∧ c.f2 + c.f3 ≤ 100000000000 ∧ (ms.length : Int) ≤ 1000000000000 then
      ho_go a b g (c.f0 + c.f1) (ho_step a b c at_ an bn ms).1 (ho_step a b c at_ an bn ms).2.1 (ho_step a b c at_ an bn ms).2.2
    else none
def hunks_one.f (l0 : List S35) (l1 l2 : List ByteArray) (a3 : Int) : Option (Int × Int × Int × Int × List S46) :=
  if 0 < l0.length ∧ l0.length ≤ 1000000000000 ∧ 0 ≤ a3 ∧ a3 ≤ 1000 ∧ 0 ≤ (rd_T35 l0 0).f0 ∧ (rd_T35 l0 0).f0 ≤ 100000000000 ∧ 0 ≤ (rd_T35 l0 0).f2 ∧ (rd_T35 l0 0).f2 ≤ 100000000000 then
    (ho_go l1 l2 l0 ((rd_T35 l0 0).f0 - mn a3 (rd_T35 l0 0).f0) 0 0 []).bind fun r =>
      if (r.2.2.2.length : Int) ≤ 1000000000000 ∧ 0 ≤ r.1 ∧ r.1 ≤ (l1.length : Int) ∧ r.1 ≤ 100000000000 then
        some (wrap64 ((rd_T35 l0 0).f0 - mn a3 (rd_T35 l0 0).f0 + mn 1 (ho_on 32 (ho_cut l1 r.1 (mn (l1.length : Int) (r.1 + a3))) r.2).1), (ho_on 32 (ho_cut l1 r.1 (mn (l1.length : Int) (r.1 + a3))) r.2).1,
          wrap64 ((rd_T35 l0 0).f2 - mn a3 (rd_T35 l0 0).f0 + mn 1 (ho_on 32 (ho_cut l1 r.1 (mn (l1.length : Int) (r.1 + a3))) r.2).2.1), (ho_on 32 (ho_cut l1 r.1 (mn (l1.length : Int) (r.1 + a3))) r.2).2.1, (ho_on 32 (ho_cut l1 r.1 (mn (l1.length : Int) (r.1 + a3))) r.2).2.2)
      else none
  else none
theorem ho_lay_len (sign : Int) : ∀ (l : List ByteArray) (an bn : Int) (ms : List S46), (ho_lay sign l an bn ms).2.2.length = ms.length + l.length
  | [], an, bn, ms => rfl
  | s :: l, an, bn, ms => by rw [ho_lay, ho_lay_len sign l, List.length_append, List.length_singleton, List.length_cons]; omega
theorem ho_cut_len (l : List ByteArray) (a b : Int) (h0 : 0 ≤ a) (h1 : a ≤ b) (h2 : b ≤ (l.length : Int)) : ((ho_cut l a b).length : Int) = b - a := by
  unfold ho_cut; rw [List.length_drop, List.length_take]; omega
section
variable {gh : Nat} {w0 : World} {a an b bn : Int} {v vr : Value} {ms : List S46} {W : World}
theorem Hx.set0 (h : Hx gh w0 a an b bn v vr ms W) (x : Int) : Hx gh w0 x an b bn v vr ms (W.setCell ⟨gh, 0, none⟩ (.int .i64 x)) := ⟨blk_put h.h 0 _ rfl, Kd.R_set h.r h.h (by decide) 0 _, h.b.setCell h.g _, h.g⟩
theorem Hx.set2 (h : Hx gh w0 a an b bn v vr ms W) (x : Int) : Hx gh w0 a an x bn v vr ms (W.setCell ⟨gh, 2, none⟩ (.int .i64 x)) := ⟨blk_put h.h 2 _ rfl, Kd.R_set h.r h.h (by decide) 2 _, h.b.setCell h.g _, h.g⟩
theorem Hx.drew (h : Hx gh w0 a an b bn v vr ms W) : Hx gh w0 a an b bn v vr ms W.drew := ⟨blk_drew h.h, Kd.R_drew h.r, below_drew1 h.b, h.g⟩
theorem Hx.below (h : Hx gh w0 a an b bn v vr ms W) {W' : World} (hb : Below W.heap.size W W') : Hx gh w0 a an b bn v vr ms W' := ⟨blk_below h.h hb, Kd.R_below h.r hb, h.b.trans (hb.mono h.b.size), h.g⟩
theorem Hx.beside (h : Hx gh w0 a an b bn v vr ms W) {g' t : Nat} {cs : Array Value} (hb : W.heap[g']? = some (.cells cs t (0, 0))) (hg : w0.heap.size ≤ g') (hn : gh ≠ g') (ht : t ≠ 46) (i : Nat) (u : Value) : Hx gh w0 a an b bn v vr ms (W.setCell ⟨g', i, none⟩ u) := ⟨blk_far h.h hn _, Kd.R_set h.r hb (by intro q hq; have e : (k46).E = [] := rfl; rw [e] at hq; simp only [List.mem_cons, List.not_mem_nil, or_false] at hq; subst hq; exact Ne.symm ht) i u, h.b.setCell hg _, h.g⟩
end
theorem Hx.fill {gh : Nat} {w0 : World} {a an b bn : Int} {v vr : Value} {ms : List S46} {W : World} (h : Hx gh w0 a an b bn v vr ms W) {g' : Nat} {z0 z1 z2 z3 : Value} (hb : W.heap[g']? = some (.cells #[z0, z1, z2, z3] 35 (0, 0))) (hg : w0.heap.size ≤ g') (hn : gh ≠ g') (a0 a1 a2 a3 : Value) :
    Hx gh w0 a an b bn v vr ms ((((W.setCell ⟨g', 0, none⟩ a0).setCell ⟨g', 1, none⟩ a1).setCell ⟨g', 2, none⟩ a2).setCell ⟨g', 3, none⟩ a3) ∧ ((((W.setCell ⟨g', 0, none⟩ a0).setCell ⟨g', 1, none⟩ a1).setCell ⟨g', 2, none⟩ a2).setCell ⟨g', 3, none⟩ a3).heap[g']? = some (.cells #[a0, a1, a2, a3] 35 (0, 0)) := by
  have b0 := blk_put (cs' := #[a0, z1, z2, z3]) hb 0 a0 rfl
  have b1 := blk_put (cs' := #[a0, a1, z2, z3]) b0 1 a1 rfl
  have b2 := blk_put (cs' := #[a0, a1, a2, z3]) b1 2 a2 rfl
  have b3 := blk_put (cs' := #[a0, a1, a2, a3]) b2 3 a3 rfl
  exact ⟨(((h.beside hb hg hn (by decide) 0 a0).beside b0 hg hn (by decide) 1 a1).beside b1 hg hn (by decide) 2 a2).beside b2 hg hn (by decide) 3 a3, b3⟩
theorem Hx.fill5 {gh : Nat} {w0 : World} {a an b bn : Int} {v vr : Value} {ms : List S46} {W : World} (h : Hx gh w0 a an b bn v vr ms W) {g' : Nat} {z0 z1 z2 z3 z4 : Value} (hb : W.heap[g']? = some (.cells #[z0, z1, z2, z3, z4] 39 (0, 0))) (hg : w0.heap.size ≤ g') (hn : gh ≠ g') (a0 a1 a2 a3 a4 : Value) :
    Hx gh w0 a an b bn v vr ms (((((W.setCell ⟨g', 0, none⟩ a0).setCell ⟨g', 1, none⟩ a1).setCell ⟨g', 2, none⟩ a2).setCell ⟨g', 3, none⟩ a3).setCell ⟨g', 4, none⟩ a4) ∧ (((((W.setCell ⟨g', 0, none⟩ a0).setCell ⟨g', 1, none⟩ a1).setCell ⟨g', 2, none⟩ a2).setCell ⟨g', 3, none⟩ a3).setCell ⟨g', 4, none⟩ a4).heap[g']? = some (.cells #[a0, a1, a2, a3, a4] 39 (0, 0)) := by
  have b0 := blk_put (cs' := #[a0, z1, z2, z3, z4]) hb 0 a0 rfl
  have b1 := blk_put (cs' := #[a0, a1, z2, z3, z4]) b0 1 a1 rfl
  have b2 := blk_put (cs' := #[a0, a1, a2, z3, z4]) b1 2 a2 rfl
  have b3 := blk_put (cs' := #[a0, a1, a2, a3, z4]) b2 3 a3 rfl
  have b4 := blk_put (cs' := #[a0, a1, a2, a3, a4]) b3 4 a4 rfl
  exact ⟨((((h.beside hb hg hn (by decide) 0 a0).beside b0 hg hn (by decide) 1 a1).beside b1 hg hn (by decide) 2 a2).beside b2 hg hn (by decide) 3 a3).beside b3 hg hn (by decide) 4 a4, b4⟩
set_option maxHeartbeats 2000000 in
set_option maxRecDepth 100000 in
theorem hunks_one.calls (A0 : Option Addr) (c0 : Nat) (l0 : List S35) (A1 : Option Addr) (c1 : Nat) (l1 : List ByteArray) (A2 : Option Addr) (c2 : Nat) (l2 : List ByteArray) (a3 : Int) (r1 r2 r3 r4 : Int) (r5 : List S46) (w : World) (hr0 : Kd.C k35 w A0 l0.length l0) (hc0 : l0.length ≤ c0) (hr1 : Kd.C Kd.string w A1 l1.length l1) (hc1 : l1.length ≤ c1) (hr2 : Kd.C Kd.string w A2 l2.length l2) (hc2 : l2.length ≤ c2) (h : hunks_one.f l0 l1 l2 a3 = some (r1, r2, r3, r4, r5)) :
    Calls Try.prog 27 #[.slice A0 l0.length c0, .slice A1 l1.length c1, .slice A2 l2.length c2, .int .i64 a3] w fun e w' => ∃ v4_ : Value, e = .returned (.agg #[.int .i64 r1, .int .i64 r2, .int .i64 r3, .int .i64 r4, v4_]) ∧ Kd.R k46 46 w' w.heap.size (fun _ => True) v4_ r5 ∧ Below w.heap.size w w' := by
  unfold hunks_one.f at h
  by_cases hg : 0 < l0.length ∧ l0.length ≤ 1000000000000 ∧ 0 ≤ a3 ∧ a3 ≤ 1000 ∧ 0 ≤ (rd_T35 l0 0).f0 ∧ (rd_T35 l0 0).f0 ≤ 100000000000 ∧ 0 ≤ (rd_T35 l0 0).f2 ∧ (rd_T35 l0 0).f2 ≤ 100000000000
  case neg => rw [if_neg hg] at h; cases h
  rw [if_pos hg] at h
  obtain ⟨g1, g2, g3, g4, g5, g6, g7, g8⟩ := hg
  obtain ⟨⟨at9, an9, bn9, ms9⟩, hgo, h2⟩ := Option.bind_eq_some_iff.mp h
  clear h
  dsimp only at h2
  by_cases hg2 : (ms9.length : Int) ≤ 1000000000000 ∧ 0 ≤ at9 ∧ at9 ≤ (l1.length : Int) ∧ at9 ≤ 100000000000
  case neg => rw [if_neg hg2] at h2; cases h2
  rw [if_pos hg2] at h2
  have HG2 := Aside0.mk hg2
  have HFIN := Aside0.mk (Option.some.inj h2)
  clear h2 hg2
  obtain ⟨f0, hf0⟩ : ∃ f0, (rd_T35 l0 0).f0 = f0 := ⟨_, rfl⟩
  obtain ⟨f2, hf2⟩ : ∃ f2, (rd_T35 l0 0).f2 = f2 := ⟨_, rfl⟩
  rw [hf0, hf2] at HFIN
  rw [hf0] at hgo g5 g6
  rw [hf2] at g7 g8
  obtain ⟨m, hm⟩ : ∃ m, mn a3 f0 = m := ⟨_, rfl⟩
  have hm1 : 0 ≤ m ∧ m ≤ f0 ∧ m ≤ 1000 := by rw [← hm]; unfold mn; split <;> omega
  rw [hm] at HFIN hgo
  have hm2 : (if f0 < a3 then f0 else a3) = m := hm
  have hw1 : wrap64 (f0 - m) = f0 - m := by unfold wrap64; omega
  have hw2 : wrap64 (f2 - m) = f2 - m := by unfold wrap64; omega
  obtain ⟨ad0, ea0, x0, x1, x2, x3⟩ := at_T35 hr0 0 (by omega) (by omega)
  cases ea0
  rw [hf0] at x0
  rw [hf2] at x2
  have hl0 : decide ((0 : Int) < (l0.length : Int)) = true := decide_eq_true (by omega)
  have hl1 : ((0 : Int) < (l0.length : Int)) = True := eq_true (by omega)
  have hl2 : (0 < l0.length) = True := eq_true (by omega)
  have HR0 := Aside0.mk hr0
  have HR1 := Aside0.mk hr1
  have HR2 := Aside0.mk hr2
  have HC0 := Aside0.mk hc0
  have HC1 := Aside0.mk hc1
  have HC2 := Aside0.mk hc2
  have HGO := Aside0.mk hgo
  have HM := Aside0.mk hm
  have HM1 := Aside0.mk hm1
  have HG := Aside0.mk (show 0 ≤ a3 ∧ a3 ≤ 1000 ∧ 0 ≤ f0 ∧ f0 ≤ 100000000000 ∧ 0 ≤ f2 ∧ f2 ≤ 100000000000 ∧ l0.length ≤ 1000000000000 ∧ 0 < l0.length by omega)
  have HB := Aside0.mk (Below.refl w.heap.size w)
  clear hr0 hr1 hr2 hc0 hc1 hc2 hgo hm hm1 g1 g2 g3 g4 g5 g6 g7 g8 hf0 hf2
  go_enter Try.func27, Try.ntmps27
  go_upto_region 2 with (first | ((with_reducible refine gate_dst (N := 8) rfl ?_); refine box_event ?hg (N := 8) ?hd (cs := #[.int .i64 0, .int .i64 0, .int .i64 0, .int .i64 0, .slice none 0 0]) (t := 39) ?hr ?_; (case hd => rfl); (case hg => rfl); (case hr => first | (go_simp; done) | (go_simp; rfl)); intro gr hg w1 hbox hb; have n1_ := Aside0.mk (below_step HB.out hb); have GR := Aside0.mk (by rw [hg]; exact HB.out.size : w.heap.size ≤ gr); clear HB; have HB := n1_; clear n1_; have BR := Aside0.mk hbox; clear hbox hg hb) | ((with_reducible refine gate_dst (N := 9) rfl ?_); refine box_event ?hg (N := 9) ?hd (cs := #[.int .i64 0, .int .i64 0, .int .i64 0, .int .i64 0, .slice none 0 0]) (t := 39) ?hr ?_; (case hd => rfl); (case hg => rfl); (case hr => first | (go_simp; done) | (go_simp; rfl)); intro gh hg w2 hbox hb; have n1_ := Aside0.mk (below_step HB.out hb); have GH := Aside0.mk (by rw [hg]; exact HB.out.size : w.heap.size ≤ gh); have NE := Aside0.mk (show gr ≠ gh by rw [hg]; have := blk_lt BR.out; omega); clear HB; have HB := n1_; clear n1_; have n1_ := Aside0.mk (blk_below BR.out hb); clear BR; have BR := n1_; clear n1_; have HX := Aside0.mk (Hx.mk hbox (Kd.R_nil _ _ _ _ _) HB.out GH.out); clear hbox hg hb HB))
  replace x0 := (HX.out.b.cell (World.block_lt_of_cell? w _ x0)).trans x0
  replace x2 := (HX.out.b.cell (World.block_lt_of_cell? w _ x2)).trans x2
  rw [show ad0.add ((0 : Int).toNat * 4) = ad0 from by simp [Addr.add]] at x0 x2
  clear x1 x3
  have q0 := (blk_cell HX.out.h 0).trans (show _ = some (Value.int .i64 0) from rfl)
  have z0 := blk_frozen HX.out.h 0
  have q2 := (blk_cell HX.out.h 2).trans (show _ = some (Value.int .i64 0) from rfl)
  have z2 := blk_frozen HX.out.h 2
  go_upto_region 4 with (fail)
  go_region
  simp only [hw1, hw2] at *
  have n1_ := Aside0.mk (((HX.out.set0 (f0 - m)).set2 (f2 - m)).drew)
  have n2_ := Aside0.mk (blk_drew (blk_far (blk_far BR.out (p := ⟨gh, 0, none⟩) NE.out (.int .i64 (f0 - m))) (p := ⟨gh, 2, none⟩) NE.out (.int .i64 (f2 - m))))
  generalize ((w2.setCell ⟨gh, 0, none⟩ (Value.int IntKind.i64 (f0 - m))).setCell ⟨gh, 2, none⟩ (Value.int IntKind.i64 (f2 - m))).drew = w3 at n1_ n2_ ⊢
  clear HX BR q0 z0 q2 z2 x0 x2 hm2 hw1 hw2
  have HX := n1_
  have BR := n2_
  clear n1_ n2_
  have q0 := (blk_cell HX.out.h 0).trans (show _ = some (Value.int .i64 (f0 - m)) from rfl)
  go_wp2
  go_loopg [12, 40] l0.length (fun q v12 v40 w' => ∃ (z at_ an bn : Int) (v : Value) (ms : List S46), v12 = .int .i64 at_ ∧ v40 = .int .i64 z ∧ 0 ≤ z ∧ z ≤ 1000000000000 ∧ Aside0 (z + (q : Int) = l0.length) ∧ Aside0 (ho_go l1 l2 (l0.drop z.toNat) at_ an bn ms = some (at9, an9, bn9, ms9)) ∧ Aside0 (Hx gh w (f0 - m) an (f2 - m) bn v v ms w') ∧ Aside0 (w'.heap[gr]? = some (.cells #[.int .i64 0, .int .i64 0, .int .i64 0, .int .i64 0, .slice none 0 0] 39 (0, 0))))
  case atStart =>
    exact ⟨0, f0 - m, 0, 0, _, [], rfl, rfl, by omega, by omega, ⟨by omega⟩, ⟨by rw [show (0 : Int).toNat = 0 from rfl, List.drop_zero]; exact HGO.out⟩, HX, BR⟩
  case round =>
    clear HGO HX BR q0
    obtain ⟨z, at_, an, bn, v, ms, rfl, rfl, hz1, hz2, HZ, HGO, HX, BR⟩ := hrel
    cases gk with
    | zero =>
      have hzl : z = (l0.length : Int) := by have := HZ.out; omega
      subst hzl
      have hp : ((l0.length : Int) < (l0.length : Int)) = False := eq_false (Int.lt_irrefl _)
      have h := HGO.out
      rw [Int.toNat_natCast, List.drop_length, ho_go] at h
      simp only [Option.some.injEq, Prod.mk.injEq] at h
      obtain ⟨rfl, rfl, rfl, rfl⟩ := h
      have hwc : wrap64 (at_ + a3) = at_ + a3 := by have := HG2.out; have := HG.out; unfold wrap64; omega
      obtain ⟨e9, he9⟩ : ∃ e, mn (l1.length : Int) (at_ + a3) = e := ⟨_, rfl⟩
      have he1 : at_ ≤ e9 ∧ e9 ≤ (l1.length : Int) ∧ e9 ≤ at_ + a3 := by have := HG2.out; have := HG.out; rw [← he9]; unfold mn; split <;> omega
      have he2 : (if at_ + a3 < (l1.length : Int) then at_ + a3 else (l1.length : Int)) = e9 := he9
      have HE9 := Aside0.mk he1
      have HFIN2 := HFIN.out
      rw [he9] at HFIN2
      obtain ⟨qi, hqi, hqs⟩ : ∃ i, Try.prog.info? 9 = some i ∧ i.size = 1 := ⟨_, rfl, rfl⟩
      obtain ⟨B1, hcut1, hA1, hD1⟩ := print_mid_of (P := Try.prog) Value.string ByteArray.empty 23 9 .i64 .i64 Try.underlying23 hqi hqs A1 c1 l1 at_ e9 (by have := HG2.out; omega) he1.1 he1.2.1 HC1.out
      have e1 := ho_cut_len l1 at_ e9 (by have := HG2.out; omega) he1.1 he1.2.1
      unfold ho_cut at e1 HFIN2
      obtain ⟨X1, hX1⟩ : ∃ X, ((l1.take e9.toNat).drop at_.toNat) = X := ⟨_, rfl⟩
      rw [hX1] at hcut1 hA1 e1 HFIN2
      have HE1 : Aside0 (Kd.C Kd.string w B1 X1.length X1) := ⟨Kd.C_of_reads (h1 := fun _ => rfl) (hA1 _ (Kd.reads_of_C HR1.out))⟩
      unfold ho_on at HFIN2
      dsimp only at HFIN2
      obtain ⟨⟨an1, bn1, ms1⟩, hR1⟩ : ∃ R, ho_lay 32 X1 an bn ms = R := ⟨_, rfl⟩
      rw [hR1] at HFIN2
      dsimp only at HFIN2
      have HL1 := Aside0.mk (show (ms.length + X1.length) * 24 ≤ 140737488355328 by have := HG2.out; have := HG.out; omega)
      have HQ1 := Aside0.mk hR1
      simp only [Prod.mk.injEq] at HFIN2
      obtain ⟨ma, hma⟩ : ∃ x, mn 1 an1 = x := ⟨_, rfl⟩
      obtain ⟨mb, hmb⟩ : ∃ x, mn 1 bn1 = x := ⟨_, rfl⟩
      have hma2 : (if an1 < 1 then an1 else 1) = ma := hma
      have hmb2 : (if bn1 < 1 then bn1 else 1) = mb := hmb
      rw [hma, hmb] at HFIN2
      have HT := Aside0.mk HFIN2
      clear hA1 hD1 hqi hqs hX1 e1 he1 he9 hR1 HFIN HFIN2 hma hmb
      go_upto_region 15 with (go_at_call 43; refine (hunks_one_1.calls 32 (.inl rfl) B1 _ X1 gh w (f0 - m) (f2 - m) an bn v ms _ _ HX.out HE1.out HL1.out HQ1.out).mono ?_; rintro e w7 ⟨rfl, ⟨v7, hx⟩, hf⟩; have n1_ := Aside0.mk hx; have n2_ := Aside0.mk (hf gr _ _ NE.out (by decide) BR.out); clear HX BR hx hf; have HX := n1_; have BR := n2_; clear n1_ n2_)
      have q0 := (blk_cell HX.out.h 0).trans (show _ = some (Value.int .i64 (f0 - m)) from rfl)
      have z0 := blk_frozen HX.out.h 0
      have q1 := (blk_cell HX.out.h 1).trans (show _ = some (Value.int .i64 an1) from rfl)
      go_upto_region 16 with ((with_reducible refine gate_store (t := 3) (p := 92) rfl ?_); refine store_event (t := 3) (p := 92) (v := ?vo_a) (w1 := (w7.setCell ⟨gh, 0, none⟩ (.int .i64 (wrap64 (f0 - m + ma))))) ?hg ?ho ?hn ?hr ?_; (case ho => rfl); (case hg => rfl); (case hn => rfl); (case hr => first | (go_simp; done) | (go_simp; rfl)); intro w8 hw8; have n1_ := Aside0.mk (HX.out.set0 (wrap64 (f0 - m + ma))); have n2_ := Aside0.mk (blk_far BR.out (p := ⟨gh, 0, none⟩) NE.out (.int .i64 (wrap64 (f0 - m + ma)))); rw [← hw8] at n1_ n2_; clear HX BR hw8 q0 z0 q1; have HX := n1_; have BR := n2_; clear n1_ n2_)
      have q2 := (blk_cell HX.out.h 2).trans (show _ = some (Value.int .i64 (f2 - m)) from rfl)
      have z2 := blk_frozen HX.out.h 2
      have q3 := (blk_cell HX.out.h 3).trans (show _ = some (Value.int .i64 bn1) from rfl)
      go_upto_region 17 with ((with_reducible refine gate_store (t := 3) (p := 99) rfl ?_); refine store_event (t := 3) (p := 99) (v := ?vo_b) (w1 := (w8.setCell ⟨gh, 2, none⟩ (.int .i64 (wrap64 (f2 - m + mb))))) ?hg ?ho ?hn ?hr ?_; (case ho => rfl); (case hg => rfl); (case hn => rfl); (case hr => first | (go_simp; done) | (go_simp; rfl)); intro w9 hw9; have n1_ := Aside0.mk (HX.out.set2 (wrap64 (f2 - m + mb))); have n2_ := Aside0.mk (blk_far BR.out (p := ⟨gh, 2, none⟩) NE.out (.int .i64 (wrap64 (f2 - m + mb)))); rw [← hw9] at n1_ n2_; clear HX BR hw9 q2 z2 q3; have HX := n1_; have BR := n2_; clear n1_ n2_)
      obtain ⟨A9, c9, e9'⟩ := Kd.R_slice HX.out.r
      subst e9'
      have q0 := (blk_cell HX.out.h 0).trans (show _ = some (Value.int .i64 (wrap64 (f0 - m + ma))) from rfl)
      have q1 := (blk_cell HX.out.h 1).trans (show _ = some (Value.int .i64 an1) from rfl)
      have q2 := (blk_cell HX.out.h 2).trans (show _ = some (Value.int .i64 (wrap64 (f2 - m + mb))) from rfl)
      have q3 := (blk_cell HX.out.h 3).trans (show _ = some (Value.int .i64 bn1) from rfl)
      have q4 := (blk_cell HX.out.h 4).trans (show _ = some (Value.slice A9 ms1.length c9) from rfl)
      have o0 := (blk_cell BR.out 0).trans (show _ = some (Value.int .i64 0) from rfl)
      have z0 := blk_frozen BR.out 0
      have o1 := (blk_cell BR.out 1).trans (show _ = some (Value.int .i64 0) from rfl)
      have z1 := blk_frozen BR.out 1
      have o2 := (blk_cell BR.out 2).trans (show _ = some (Value.int .i64 0) from rfl)
      have z2 := blk_frozen BR.out 2
      have o3 := (blk_cell BR.out 3).trans (show _ = some (Value.int .i64 0) from rfl)
      have z3 := blk_frozen BR.out 3
      have o4 := (blk_cell BR.out 4).trans (show _ = some (Value.slice none 0 0) from rfl)
      have z4 := blk_frozen BR.out 4
      go_wp2_with ((with_reducible refine gate_store (t := 39) (p := 8) rfl ?_); refine store_event (t := 39) (p := 8) (v := ?vo_c) (w1 := (((((w9.setCell ⟨gr, 0, none⟩ (.int .i64 (wrap64 (f0 - m + ma)))).setCell ⟨gr, 1, none⟩ (.int .i64 an1)).setCell ⟨gr, 2, none⟩ (.int .i64 (wrap64 (f2 - m + mb)))).setCell ⟨gr, 3, none⟩ (.int .i64 bn1)).setCell ⟨gr, 4, none⟩ (.slice A9 ms1.length c9))) ?hg ?ho ?hn ?hr ?_; (case ho => rfl); (case hg => rfl); (case hn => rfl); (case hr => first | (go_simp; done) | (go_simp; rfl)); intro w10 hw10; have nf_ := HX.out.fill5 BR.out GR.out (Ne.symm NE.out) (.int .i64 (wrap64 (f0 - m + ma))) (.int .i64 an1) (.int .i64 (wrap64 (f2 - m + mb))) (.int .i64 bn1) (.slice A9 ms1.length c9); rw [← hw10] at nf_; have n1_ := Aside0.mk nf_.1; have n2_ := Aside0.mk nf_.2; clear HX BR nf_ hw10 q0 q1 q2 q3 q4 o0 o1 o2 o3 o4 z0 z1 z2 z3 z4; have HX := n1_; have BR := n2_; clear n1_ n2_)
      refine bodyPost_ret (results_cell_row rfl _ _ gr 39 #[.int .i64 (wrap64 (f0 - m + ma)), .int .i64 an1, .int .i64 (wrap64 (f2 - m + mb)), .int .i64 bn1, .slice A9 ms1.length c9] (0, 0) _ rfl BR.out Try.underlying39 rfl (by kernel_rfl)) rfl ?_
      obtain ⟨rfl, rfl, rfl, rfl, rfl⟩ := HT.out
      exact ⟨_, rfl, HX.out.r, HX.out.b⟩
    | succ q1 =>
      have hzl : decide (z < (l0.length : Int)) = true := decide_eq_true (by have := HZ.out; omega)
      have hz3 := of_decide_eq_true hzl
      obtain ⟨ad1, ea1, x0, x1, x2, x3⟩ := at_T35 HR0.out z hz1 hz3
      cases ea1
      replace x0 := (HX.out.b.cell (World.block_lt_of_cell? w _ x0)).trans x0
      replace x1 := (HX.out.b.cell (World.block_lt_of_cell? w _ x1)).trans x1
      replace x2 := (HX.out.b.cell (World.block_lt_of_cell? w _ x2)).trans x2
      replace x3 := (HX.out.b.cell (World.block_lt_of_cell? w _ x3)).trans x3
      have p1 := eq_true hz1
      have p2 := eq_true hz3
      have hw : wrap64 (z + 1) = z + 1 := by unfold wrap64; omega
      have HW := Aside0.mk hw
      have hd : l0.drop z.toNat = rd_T35 l0 z :: l0.drop (z + 1).toNat := by
        rw [show (z + 1).toNat = z.toNat + 1 by omega, List.drop_eq_getElem_cons (by omega)]
        simp [rd_T35, List.getD_eq_getElem?_getD, show z.toNat < l0.length by omega]
      obtain ⟨ch, hch⟩ : ∃ ch, rd_T35 l0 z = ch := ⟨_, rfl⟩
      rw [hch] at x0 x1 x2 x3
      have hgo := HGO.out
      rw [hd, hch, ho_go] at hgo
      by_cases hc : 0 ≤ at_ ∧ at_ ≤ ch.f0 ∧ 0 ≤ ch.f1 ∧ ch.f0 + ch.f1 ≤ (l1.length : Int) ∧ ch.f0 + ch.f1 ≤ 100000000000 ∧ 0 ≤ ch.f2 ∧ 0 ≤ ch.f3 ∧ ch.f2 + ch.f3 ≤ (l2.length : Int) ∧ ch.f2 + ch.f3 ≤ 100000000000 ∧ (ms.length : Int) ≤ 1000000000000
      case neg => rw [if_neg hc] at hgo; cases hgo
      rw [if_pos hc] at hgo
      have HGO2 := Aside0.mk hgo
      have HC := Aside0.mk hc
      clear hgo hd hw hz3 hch HGO hc
      have hwa : wrap64 (ch.f0 + ch.f1) = ch.f0 + ch.f1 := by have := HC.out; unfold wrap64; omega
      have hwb : wrap64 (ch.f2 + ch.f3) = ch.f2 + ch.f3 := by have := HC.out; unfold wrap64; omega
      obtain ⟨qi, hqi, hqs⟩ : ∃ i, Try.prog.info? 9 = some i ∧ i.size = 1 := ⟨_, rfl, rfl⟩
      obtain ⟨B1, hcut1, hA1, hD1⟩ := print_mid_of (P := Try.prog) Value.string ByteArray.empty 23 9 .i64 .i64 Try.underlying23 hqi hqs A1 c1 l1 at_ ch.f0 (by have := HC.out; omega) (by have := HC.out; omega) (by have := HC.out; omega) HC1.out
      obtain ⟨B2, hcut2, hA2, hD2⟩ := print_mid_of (P := Try.prog) Value.string ByteArray.empty 23 9 .i64 .i64 Try.underlying23 hqi hqs A1 c1 l1 ch.f0 (ch.f0 + ch.f1) (by have := HC.out; omega) (by have := HC.out; omega) (by have := HC.out; omega) HC1.out
      obtain ⟨B3, hcut3, hA3, hD3⟩ := print_mid_of (P := Try.prog) Value.string ByteArray.empty 23 9 .i64 .i64 Try.underlying23 hqi hqs A2 c2 l2 ch.f2 (ch.f2 + ch.f3) (by have := HC.out; omega) (by have := HC.out; omega) (by have := HC.out; omega) HC2.out
      have hs : ho_step l1 l2 ch at_ an bn ms = ho_on 43 (ho_cut l2 ch.f2 (ch.f2 + ch.f3)) (ho_on 45 (ho_cut l1 ch.f0 (ch.f0 + ch.f1)) (ho_on 32 (ho_cut l1 at_ ch.f0) (an, bn, ms))) := rfl
      have e1 := ho_cut_len l1 at_ ch.f0 (by have := HC.out; omega) (by have := HC.out; omega) (by have := HC.out; omega)
      have e2 := ho_cut_len l1 ch.f0 (ch.f0 + ch.f1) (by have := HC.out; omega) (by have := HC.out; omega) (by have := HC.out; omega)
      have e3 := ho_cut_len l2 ch.f2 (ch.f2 + ch.f3) (by have := HC.out; omega) (by have := HC.out; omega) (by have := HC.out; omega)
      unfold ho_cut at hs e1 e2 e3
      obtain ⟨X1, hX1⟩ : ∃ X, ((l1.take ch.f0.toNat).drop at_.toNat) = X := ⟨_, rfl⟩
      obtain ⟨X2, hX2⟩ : ∃ X, ((l1.take (ch.f0 + ch.f1).toNat).drop ch.f0.toNat) = X := ⟨_, rfl⟩
      obtain ⟨X3, hX3⟩ : ∃ X, ((l2.take (ch.f2 + ch.f3).toNat).drop ch.f2.toNat) = X := ⟨_, rfl⟩
      rw [hX1, hX2, hX3] at hs
      rw [hX1] at hcut1 hA1 e1
      rw [hX2] at hcut2 hA2 e2
      rw [hX3] at hcut3 hA3 e3
      have HE1 : Aside0 (Kd.C Kd.string w B1 X1.length X1) := ⟨Kd.C_of_reads (h1 := fun _ => rfl) (hA1 _ (Kd.reads_of_C HR1.out))⟩
      have HE2 : Aside0 (Kd.C Kd.string w B2 X2.length X2) := ⟨Kd.C_of_reads (h1 := fun _ => rfl) (hA2 _ (Kd.reads_of_C HR1.out))⟩
      have HE3 : Aside0 (Kd.C Kd.string w B3 X3.length X3) := ⟨Kd.C_of_reads (h1 := fun _ => rfl) (hA3 _ (Kd.reads_of_C HR2.out))⟩
      obtain ⟨⟨an1, bn1, ms1⟩, hR1⟩ : ∃ R, ho_lay 32 X1 an bn ms = R := ⟨_, rfl⟩
      have j1 := ho_lay_len 32 X1 an bn ms
      rw [hR1] at j1
      obtain ⟨⟨an2, bn2, ms2⟩, hR2⟩ : ∃ R, ho_lay 45 X2 an1 bn1 ms1 = R := ⟨_, rfl⟩
      have j2 := ho_lay_len 45 X2 an1 bn1 ms1
      rw [hR2] at j2
      obtain ⟨⟨an3, bn3, ms3⟩, hR3⟩ : ∃ R, ho_lay 43 X3 an2 bn2 ms2 = R := ⟨_, rfl⟩
      have hs2 : ho_step l1 l2 ch at_ an bn ms = (an3, bn3, ms3) := by rw [hs]; unfold ho_on; dsimp only; rw [hR1]; dsimp only; rw [hR2]; dsimp only; rw [hR3]
      have HGO3 : Aside0 (ho_go l1 l2 (l0.drop (z + 1).toNat) (ch.f0 + ch.f1) an3 bn3 ms3 = some (at9, an9, bn9, ms9)) := ⟨by have h := HGO2.out; rw [hs2] at h; exact h⟩
      have HL1 := Aside0.mk (show (ms.length + X1.length) * 24 ≤ 140737488355328 by have := HC.out; omega)
      have HL2 := Aside0.mk (show (ms1.length + X2.length) * 24 ≤ 140737488355328 by have := HC.out; dsimp only at j1; omega)
      have HL3 := Aside0.mk (show (ms2.length + X3.length) * 24 ≤ 140737488355328 by have := HC.out; dsimp only at j1 j2; omega)
      have HQ1 := Aside0.mk hR1
      have HQ2 := Aside0.mk hR2
      have HQ3 := Aside0.mk hR3
      clear hs hs2 hX1 hX2 hX3 hA1 hA2 hA3 hD1 hD2 hD3 e1 e2 e3 hqi hqs hR1 hR2 hR3 j1 j2 HGO2
      go_upto_region 9 with (first | ((with_reducible refine gate_dst (N := 14) rfl ?_); refine box_event ?hg (N := 14) ?hd (cs := #[.int .i64 0, .int .i64 0, .int .i64 0, .int .i64 0]) (t := 35) ?hr ?_; (case hd => rfl); (case hg => rfl); (case hr => first | (go_simp; done) | (go_simp; rfl)); intro gc hg w5 hbox hb; have NC1 := Aside0.mk (show gh ≠ gc by rw [hg]; have := blk_lt HX.out.h; omega); have NC2 := Aside0.mk (show gr ≠ gc by rw [hg]; have := blk_lt BR.out; omega); have GC := Aside0.mk (show w.heap.size ≤ gc by rw [hg]; exact HX.out.b.size); have n1_ := Aside0.mk (HX.out.below hb); have n2_ := Aside0.mk (blk_below BR.out hb); have BC := Aside0.mk hbox; clear HX BR hbox hg hb x0 x1 x2 x3; have HX := n1_; have BR := n2_; clear n1_ n2_; have e0 := (blk_cell BC.out 0).trans (show _ = some (Value.int .i64 0) from rfl); have e1 := (blk_cell BC.out 1).trans (show _ = some (Value.int .i64 0) from rfl); have e2 := (blk_cell BC.out 2).trans (show _ = some (Value.int .i64 0) from rfl); have e3 := (blk_cell BC.out 3).trans (show _ = some (Value.int .i64 0) from rfl); have k0 := blk_frozen BC.out 0; have k1 := blk_frozen BC.out 1; have k2 := blk_frozen BC.out 2; have k3 := blk_frozen BC.out 3) | ((with_reducible refine gate_store (t := 35) (p := 14) rfl ?_); refine store_event (t := 35) (p := 14) (v := ?vo_s) (w1 := ((((w5.setCell ⟨gc, 0, none⟩ (.int .i64 ch.f0)).setCell ⟨gc, 1, none⟩ (.int .i64 ch.f1)).setCell ⟨gc, 2, none⟩ (.int .i64 ch.f2)).setCell ⟨gc, 3, none⟩ (.int .i64 ch.f3))) ?hg ?ho ?hn ?hr ?_; (case ho => rfl); (case hg => rfl); (case hn => rfl); (case hr => first | (go_simp; done) | (go_simp; rfl)); intro w6 hw6; have nf_ := HX.out.fill BC.out GC.out NC1.out (.int .i64 ch.f0) (.int .i64 ch.f1) (.int .i64 ch.f2) (.int .i64 ch.f3); rw [← hw6] at nf_; have n1_ := Aside0.mk nf_.1; have n3_ := Aside0.mk nf_.2; have n2_ : Aside0 (w6.heap[gr]? = some (.cells #[.int .i64 0, .int .i64 0, .int .i64 0, .int .i64 0, .slice none 0 0] 39 (0, 0))) := ⟨by rw [hw6]; exact blk_far (blk_far (blk_far (blk_far BR.out NC2.out _) NC2.out _) NC2.out _) NC2.out _⟩; clear HX BR BC nf_ hw6 e0 e1 e2 e3 k0 k1 k2 k3; have HX := n1_; have BR := n2_; have BC := n3_; clear n1_ n2_ n3_; have y0 := (blk_cell BC.out 0).trans (show _ = some (Value.int .i64 ch.f0) from rfl); have y1 := (blk_cell BC.out 1).trans (show _ = some (Value.int .i64 ch.f1) from rfl); have y2 := (blk_cell BC.out 2).trans (show _ = some (Value.int .i64 ch.f2) from rfl); have y3 := (blk_cell BC.out 3).trans (show _ = some (Value.int .i64 ch.f3) from rfl)))
      go_upto_region 10 with (go_at_call 43; refine (hunks_one_1.calls 32 (.inl rfl) B1 _ X1 gh w (f0 - m) (f2 - m) an bn v ms _ _ HX.out HE1.out HL1.out HQ1.out).mono ?_; rintro e w7 ⟨rfl, ⟨v7, hx⟩, hf⟩; have n1_ := Aside0.mk hx; have n2_ := Aside0.mk (hf gr _ _ NE.out (by decide) BR.out); have n3_ := Aside0.mk (hf gc _ _ (Ne.symm NC1.out) (by decide) BC.out); clear HX BR BC hx hf y0 y1 y2 y3; have HX := n1_; have BR := n2_; have BC := n3_; clear n1_ n2_ n3_; have y0 := (blk_cell BC.out 0).trans (show _ = some (Value.int .i64 ch.f0) from rfl); have y1 := (blk_cell BC.out 1).trans (show _ = some (Value.int .i64 ch.f1) from rfl); have y2 := (blk_cell BC.out 2).trans (show _ = some (Value.int .i64 ch.f2) from rfl); have y3 := (blk_cell BC.out 3).trans (show _ = some (Value.int .i64 ch.f3) from rfl))
      go_upto_region 12 with (go_at_call 43; refine (hunks_one_1.calls 45 (.inr (.inr rfl)) B2 _ X2 gh w (f0 - m) (f2 - m) an1 bn1 v7 ms1 _ _ HX.out HE2.out HL2.out HQ2.out).mono ?_; rintro e w8 ⟨rfl, ⟨v8, hx⟩, hf⟩; have n1_ := Aside0.mk hx; have n2_ := Aside0.mk (hf gr _ _ NE.out (by decide) BR.out); have n3_ := Aside0.mk (hf gc _ _ (Ne.symm NC1.out) (by decide) BC.out); clear HX BR BC hx hf y0 y1 y2 y3; have HX := n1_; have BR := n2_; have BC := n3_; clear n1_ n2_ n3_; have y0 := (blk_cell BC.out 0).trans (show _ = some (Value.int .i64 ch.f0) from rfl); have y1 := (blk_cell BC.out 1).trans (show _ = some (Value.int .i64 ch.f1) from rfl); have y2 := (blk_cell BC.out 2).trans (show _ = some (Value.int .i64 ch.f2) from rfl); have y3 := (blk_cell BC.out 3).trans (show _ = some (Value.int .i64 ch.f3) from rfl))
      go_wp2_with (go_at_call 43; refine (hunks_one_1.calls 43 (.inr (.inl rfl)) B3 _ X3 gh w (f0 - m) (f2 - m) an2 bn2 v8 ms2 _ _ HX.out HE3.out HL3.out HQ3.out).mono ?_; rintro e w9 ⟨rfl, ⟨v9, hx⟩, hf⟩; have n1_ := Aside0.mk hx; have n2_ := Aside0.mk (hf gr _ _ NE.out (by decide) BR.out); have n3_ := Aside0.mk (hf gc _ _ (Ne.symm NC1.out) (by decide) BC.out); clear HX BR BC hx hf y0 y1 y2 y3; have HX := n1_; have BR := n2_; have BC := n3_; clear n1_ n2_ n3_; have y0 := (blk_cell BC.out 0).trans (show _ = some (Value.int .i64 ch.f0) from rfl); have y1 := (blk_cell BC.out 1).trans (show _ = some (Value.int .i64 ch.f1) from rfl); have y2 := (blk_cell BC.out 2).trans (show _ = some (Value.int .i64 ch.f2) from rfl); have y3 := (blk_cell BC.out 3).trans (show _ = some (Value.int .i64 ch.f3) from rfl))
      go_roundg q1
      case measure => omega
      case rel => exact ⟨z + 1, ch.f0 + ch.f1, an3, bn3, v9, ms3, by go_num, by go_num, by omega, by have := HZ.out; have := HG.out; omega, ⟨by have := HZ.out; omega⟩, HGO3, HX, BR⟩
end Go.Proofs.Ytmnajajnbmlihaa.X
