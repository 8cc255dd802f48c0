/- HunksOrder: the law, out of the walk of its function and the plain law. No condition beyond the statement's own. -/
import Derived.Test.YtmnajajnbmlihaaRows
import Derived.Test.YtmnajajnbmlihaaZOVh
import Derived.Test.YtmnajajnbmlihaaZOHl
import Derived.WalkKit
import Derived.ProofKit
import Derived.OpenShut
import Derived.ShutString
import Derived.ChangeOld
import Derived.Below
import Derived.SizedLaws
namespace Go.Proofs.Ytmnajajnbmlihaa.hunksOrder
open Go.ChangeShapes Go.WideShapes Go.ChangeAt Go.RowKit
open Go.ChangeMaps (open_string shut_string)
open Go.Proofs.YtmnajajnbmlihaaW.PrintWords Go.Proofs.YtmnajajnbmlihaaW.PrintLast Go.Proofs.YtmnajajnbmlihaaW.PrintMore Go.Proofs.YtmnajajnbmlihaaW.LawWords
set_option linter.unusedVariables false
theorem own : ownKnob Try.prog.godebug = none := by kernel_rfl
theorem laidOut : laidOutB Try.prog = true := by kernel_rfl
theorem opens_mark : Opens Try.prog X.k46 46 (fun m : X.S46 => m.f1.size ≤ 140737488351232) := by
  intro H enc W base spare held fuel cs x hx hw
  obtain ⟨y, hy, _, b⟩ := (opens_struct Try.underlying46 (opensF_cons (opens_int Try.underlying5) (by kernel_rfl) rfl (opensF_one (opens_string Try.underlying9) (by kernel_rfl) rfl)) (by kernel_rfl) (fun x : X.S46 => (x.f0, x.f1)) (fun a => ⟨a.1, a.2⟩) (fun a => rfl)) hx hw
  exact ⟨y, hy, b⟩
theorem opens_hunk : Opens Try.prog X.k39 39 (fun h : X.S39 => h.f4.length * 24 ≤ 140737488351232 ∧ ∀ m ∈ h.f4, m.f1.size ≤ 140737488351232) := by
  intro H enc W base spare held fuel cs x hx hw
  obtain ⟨y, hy, _, _, _, _, _, b, c⟩ := (opens_struct Try.underlying39 (opensF_cons (opens_int Try.underlying3) (by kernel_rfl) rfl (opensF_cons (opens_int Try.underlying3) (by kernel_rfl) rfl (opensF_cons (opens_int Try.underlying3) (by kernel_rfl) rfl (opensF_cons (opens_int Try.underlying3) (by kernel_rfl) rfl (opensF_one (opens_slice Try.underlying37 opens_mark (by kernel_rfl) (b := 24) (by kernel_rfl)) (by kernel_rfl) rfl))))) (by kernel_rfl) (fun x : X.S39 => (x.f0, x.f1, x.f2, x.f3, x.f4)) (fun a => ⟨a.1, a.2.1, a.2.2.1, a.2.2.2.1, a.2.2.2.2⟩) (fun a => rfl)) hx hw
  exact ⟨y, hy, b, c⟩
/-- a row that came in -/
theorem open_row {α : Type} {d : Kd α} {t e : TypeId} {B : List α → Prop} (h : Opens Try.prog (Kd.slice e d) t B) {H : Type} {enc : TypeId × Value → H} {W : World} {base : Nat} {spare : Nat → Bool} {held : Bool} {a : Option Addr} {len cap : Nat} {x : DataW H} {p : List MemPlace}
    (hf : DataW.Trod enc Try.prog W base spare held t (.slice a len cap) x p) (hw : ∀ n ∈ x.weights Try.prog t, n ≤ reachBytes) : ∃ ys : List α, ys.length = len ∧ d.C W a ys.length ys ∧ ys.length ≤ cap ∧ B ys := by
  obtain ⟨fuel, hf⟩ := hf
  obtain ⟨ys, ⟨a', c', e1, e2, e3⟩, hB⟩ := h hf hw
  simp [Value.cells] at e1
  obtain ⟨rfl, rfl, rfl⟩ := e1
  exact ⟨ys, rfl, e3, e2, hB⟩
set_option maxRecDepth 100000 in
theorem lifted (os : Os) (started : os.Started) (H : Type) (enc : TypeId × Value → H) :
    ReturnsInHanded {} Try.checked os 5 .any (Rows.hunksOrderSpec.pre6 enc Try.prog Try.f5 Rows.hunksOrderRow.domain false) (Rows.hunksOrderSpec.post enc Try.prog Try.f5 false true false false) := by
  refine returnsInHanded_of_change_sized (C := Try.checked) own started (by kernel_rfl) Try.func5
    (ChangeSpec.witness6 (enc := enc) (C := Try.checked) false ⟨#[], #[.slice none 0 0], []⟩ 8 (by kernel_rfl) (by kernel_rfl) (by kernel_rfl) (by kernel_rfl)) ?_
  intro W base args ds gs before hval0 hW hcnd hsz0 _
  have hsz : (DataW.weightsEach Try.prog (Try.f5.params.toList ++ Rows.hunksOrderSpec.plain.varTypes Try.prog) (ds ++ gs)).all (· ≤ reachBytes) = true := hsz0
  have hval : ∀ (j : Nat) t v, Try.f5.params[j]? = some t → args[j]? = some v → Value.okWide Try.prog W .any base t v := hval0
  have hW' := hW
  obtain ⟨p, q, hA0, hV, rfl, hfz, hnd⟩ := hW
  have hA : DataW.TrodAll enc Try.prog W 0 (fun _ => true) true Try.f5.params.toList args.toList ds p := hA0
  rw [Try.params5] at hA hval hsz
  obtain ⟨v0, vs0, d0, ds0, p0, q0, hargs, rfl, rfl, h0, r0⟩ := trodAll_cons hA
  obtain ⟨rfl, rfl, rfl⟩ := trodAll_nil r0
  obtain rfl : args = #[v0] := by cases args; simp_all
  obtain ⟨rfl, rfl⟩ := trodVars_none hV
  have hwt : ∀ n ∈ d0.weights Try.prog 24, n ≤ reachBytes := fun n hn => by
    have := List.all_eq_true.1 hsz n (DataW.weights_mem_each (j := 0) (t := 24) (d := d0) rfl rfl n hn)
    simpa using this
  obtain ⟨a0, len0, cap0, rfl⟩ := okWide_slice Try.underlying24 (hval 0 24 v0 rfl rfl)
  have k0 := h0
  have lt0 : ∀ x ∈ p0, x.block < W.heap.size := by obtain ⟨m, hm⟩ := k0; exact DataW.trod_lt m _ _ _ hm
  obtain ⟨l0, e0, hr0, hc0, hm0, hz0, hb0⟩ := open_row (opens_slice Try.underlying24 opens_hunk (by kernel_rfl) (b := 56) (by kernel_rfl)) h0 hwt
  clear hA0 hval0 hsz0 hsz hwt
  subst e0
  obtain ⟨K, hK⟩ := Q.H12.ho_ev l0 (by omega) (fun h hh => by have := (hb0 h hh).1; omega) (fun h hh m hm => Nat.le_trans ((hb0 h hh).2 m hm) (by omega))
  refine (X.redlinelaw11_HunksOrder.calls K _ _ l0 true W hr0 hc0 (hK K (Nat.le_refl K))).mono fun e W' ⟨he, bel⟩ => ?_
  subst he
  exact ⟨_, rfl, _, _, _, [], _, [], hW', trodAll_mk1 (shut_bool Try.underlying4 _), (trodAll_cons_mk (Below.trod laidOut (by kernel_rfl) (of_decide_eq_true (by kernel_rfl)) k0 bel lt0) trodAll_mk0), rfl, bel.frame _, fun h => by cases h⟩
theorem over : Rows.hunksOrderRow.holds Try.pinned (OpenSpec.ofChange Rows.hunksOrderSpec) :=
  OpenClaim.holds_of_wide 5 Try.f5 rfl rfl rfl rfl rfl rfl rfl ⟨rfl, rfl, rfl, rfl, rfl⟩ rfl rfl rfl rfl rfl (by kernel_rfl) Try.func5 (by kernel_rfl)
    (of_decide_eq_true (by kernel_rfl)) (by unfold Func.isWrapper; first | (rw [if_pos (by decide +kernel)]; kernel_rfl) | (rw [if_neg (by decide +kernel)]; exact ⟨rfl, rfl⟩))
    (fun os started H enc _ => lifted os started H enc)
theorem proved : Rows.HunksOrderSaid := over
end Go.Proofs.Ytmnajajnbmlihaa.hunksOrder
namespace Go.Proofs.Ytmnajajnbmlihaa
/-- The row, under a short name, for the claim. -/
theorem hunksOrder_holds : Rows.HunksOrderSaid := hunksOrder.proved
end Go.Proofs.Ytmnajajnbmlihaa
