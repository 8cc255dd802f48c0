/- ApplyStricts: the law, out of the walk of its function and the plain law. Of arguments of bulk at most 1048576 (the statement's own condition). -/
import Derived.Test.YtnbeppnpfdempaaRows
import Derived.Test.YtnbeppnpfdempaaZATc
import Derived.Test.YtnbeppnpfdempaaZAHb
import Derived.JoinedCond
import Derived.WalkKit
import Derived.ProofKit
import Derived.OpenShut
import Derived.ShutString
import Derived.ChangeOld
import Derived.Below
import Derived.SizedLaws
namespace Go.Proofs.Ytnbeppnpfdempaa.applyStricts
open Go.ChangeShapes Go.WideShapes Go.ChangeAt Go.RowKit
open Go.ChangeMaps (open_string shut_string)
open Go.Proofs.YtnbeppnpfdempaaW.PrintWords Go.Proofs.YtnbeppnpfdempaaW.PrintLast Go.Proofs.YtnbeppnpfdempaaW.PrintMore Go.Proofs.YtnbeppnpfdempaaW.BulkWords
set_option linter.unusedVariables false
theorem own : ownKnob Try.prog.godebug = none := by kernel_rfl
theorem laidOut : laidOutB Try.prog = true := by kernel_rfl
theorem opens_mark : Opens Try.prog X.k76 76 (fun m : X.S76 => m.f1.size ≤ 1048576) := by
  intro H enc W base spare held fuel cs x hx hw
  obtain ⟨y, hy, _, b⟩ := (opens_struct Try.underlying76 (opensF_cons (opens_int Try.underlying5) (by kernel_rfl) rfl (opensF_one (opens_string Try.underlying9) (by kernel_rfl) rfl)) (by kernel_rfl) (fun x : X.S76 => (x.f0, x.f1)) (fun a => ⟨a.1, a.2⟩) (fun a => rfl)) hx hw
  exact ⟨y, hy, b⟩
theorem opens_hunk : Opens Try.prog X.k57 57 (fun h : X.S57 => h.f4.length ≤ 1048576 ∧ ∀ m ∈ h.f4, m.f1.size ≤ 1048576) := by
  intro H enc W base spare held fuel cs x hx hw
  obtain ⟨y, hy, _, _, _, _, _, b, c⟩ := (opens_struct Try.underlying57 (opensF_cons (opens_int Try.underlying3) (by kernel_rfl) rfl (opensF_cons (opens_int Try.underlying3) (by kernel_rfl) rfl (opensF_cons (opens_int Try.underlying3) (by kernel_rfl) rfl (opensF_cons (opens_int Try.underlying3) (by kernel_rfl) rfl (opensF_one (opens_slice Try.underlying55 opens_mark (by kernel_rfl)) (by kernel_rfl) rfl))))) (by kernel_rfl) (fun x : X.S57 => (x.f0, x.f1, x.f2, x.f3, x.f4)) (fun a => ⟨a.1, a.2.1, a.2.2.1, a.2.2.2.1, a.2.2.2.2⟩) (fun a => rfl)) hx hw
  exact ⟨y, hy, b, c⟩
/-- a row that came in -/
theorem open_row {α : Type} {d : Kd α} {t e : TypeId} {B : List α → Prop} (h : Opens Try.prog (Kd.slice e d) t B) {H : Type} {enc : TypeId × Value → H} {W : World} {base : Nat} {spare : Nat → Bool} {held : Bool} {a : Option Addr} {len cap : Nat} {x : DataW H} {p : List MemPlace}
    (hf : DataW.Trod enc Try.prog W base spare held t (.slice a len cap) x p) (hw : Rows.uptoBulk x ≤ 1048576) : ∃ ys : List α, ys.length = len ∧ d.C W a ys.length ys ∧ ys.length ≤ cap ∧ B ys := by
  obtain ⟨fuel, hf⟩ := hf
  obtain ⟨ys, ⟨a', c', e1, e2, e3⟩, hB⟩ := h hf hw
  simp [Value.cells] at e1
  obtain ⟨rfl, rfl, rfl⟩ := e1
  exact ⟨ys, rfl, e3, e2, hB⟩
theorem contract (H : Type) (enc : TypeId × Value → H) (W : World) (base : Nat) (args : Array Value) (ds gs : List (DataW H)) (before : List MemPlace)
    (hval : ∀ (j : Nat) t v, Try.f4.params[j]? = some t → args[j]? = some v → Value.okWide Try.prog W .any base t v)
    (hW : DataW.Whole enc Try.prog Try.f4.params.toList Rows.applyStrictsSpec.vars false W args.toList ds gs before) (hk : Rows.uptoSmall H (ds ++ gs) = true) :
    Calls Try.prog 4 args W fun e W' => ∃ v, e = .returned v ∧ Rows.applyStrictsSpec.post enc Try.prog Try.f4 false true false false W args v W' := by
  have hW' := hW
  obtain ⟨p, q, hA0, hV, rfl, hfz, hnd⟩ := hW
  have hA : DataW.TrodAll enc Try.prog W 0 (fun _ => true) true Try.f4.params.toList args.toList ds p := hA0
  rw [Try.params4] at hA hval
  obtain ⟨v0, vs0, d0, ds0, p0, q0, hargs, rfl, rfl, h0, r0⟩ := trodAll_cons hA
  obtain ⟨v1, vs1, d1, ds1, p1, q1, rfl, rfl, rfl, h1, r1⟩ := trodAll_cons r0
  obtain ⟨rfl, rfl, rfl⟩ := trodAll_nil r1
  obtain rfl : args = #[v0, v1] := by cases args; simp_all
  obtain ⟨rfl, rfl⟩ := trodVars_none hV
  have hb : Rows.uptoBulkAll [d0, d1] ≤ 1048576 := of_decide_eq_true hk
  have hb0 : Rows.uptoBulk d0 ≤ 1048576 := Nat.le_trans (part_le (List.mem_cons_self ..)) hb
  have hb1 : Rows.uptoBulk d1 ≤ 1048576 := Nat.le_trans (part_le (List.mem_cons_of_mem _ (List.mem_cons_self ..))) hb
  obtain ⟨x0, len0, cap0, rfl⟩ := okWide_slice Try.underlying28 (hval 0 28 v0 rfl rfl)
  have k0 := h0
  have lt0 : ∀ x ∈ p0, x.block < W.heap.size := by obtain ⟨m, hm⟩ := k0; exact DataW.trod_lt m _ _ _ hm
  obtain ⟨x1, len1, cap1, rfl⟩ := okWide_slice Try.underlying23 (hval 1 23 v1 rfl rfl)
  have k1 := h1
  have lt1 : ∀ x ∈ p1, x.block < W.heap.size := by obtain ⟨m, hm⟩ := k1; exact DataW.trod_lt m _ _ _ hm
  obtain ⟨l0, e0, hr0, hc0, hm0, hz0, ha0⟩ := open_row (opens_slice Try.underlying28 opens_hunk (by kernel_rfl)) h0 hb0
  obtain ⟨l1, e1, hr1, hc1, hm1, hz1, ha1⟩ := open_row (opens_slice Try.underlying23 (opens_string Try.underlying9) (by kernel_rfl)) h1 hb1
  clear hA0
  simp only [List.append_nil] at hW'
  subst e0 e1
  obtain ⟨K, hK⟩ := Q.H19.as_ev l0 hz0 (fun h hh => (ha0 h hh).1) (fun h hh => (ha0 h hh).2) l1 hz1 ha1
  refine (X.redlinelaw19_ApplyStricts.calls K _ _ l0 _ _ l1 true W hr0 hc0 hr1 hc1 (hK K (Nat.le_refl K))).mono fun e W' ⟨he, bel⟩ => ?_
  subst he
  exact ⟨_, rfl, _, _, _, [], _, [], hW', trodAll_mk1 (shut_bool Try.underlying4 _), (trodAll_cons_mk (Below.trod laidOut (by kernel_rfl) (of_decide_eq_true (by kernel_rfl)) k0 bel lt0) (trodAll_cons_mk (Below.trod laidOut (by kernel_rfl) (of_decide_eq_true (by kernel_rfl)) k1 bel lt1) trodAll_mk0)), rfl, bel.frame _, fun h => by cases h⟩
set_option maxRecDepth 100000 in
theorem lifted (os : Os) (started : os.Started) (H : Type) (enc : TypeId × Value → H) (F : Stop.Interp) :
    ReturnsInHanded {} Try.checked os 4 .any ((Rows.OpenSpec.upto Rows.applyStrictsSpec).pre6 enc Try.prog Try.f4 Rows.applyStrictsUptoRow.domain false) (((Rows.OpenSpec.upto Rows.applyStrictsSpec).at F).post enc Try.prog Try.f4 false true false false) := by
  refine returnsInHanded_of_cond (C := Try.checked) (s := Rows.OpenSpec.upto Rows.applyStrictsSpec) (k := Rows.uptoSmall) rfl own started (by kernel_rfl) Try.func4
    (OpenSpec.witness (enc := enc) (C := Try.checked) (s := Rows.OpenSpec.upto Rows.applyStrictsSpec) (k := Rows.uptoSmall) rfl false ⟨#[], #[.slice none 0 0, .slice none 0 0], []⟩ 8 (by kernel_rfl) (by kernel_rfl) (by kernel_rfl)
      (x := ([.nil, .nil], [], [])) (by kernel_rfl) rfl (by kernel_rfl)) ?_
  intro W base args ds gs before hval hW _ hk _
  exact contract H enc W base args ds gs before hval hW hk
theorem proved : Rows.ApplyStrictsUptoSaid :=
  OpenClaim.holds_of_cond 4 Try.f4 rfl rfl rfl rfl rfl rfl rfl ⟨rfl, rfl, rfl, rfl, rfl⟩ rfl rfl rfl rfl rfl (by kernel_rfl) Try.func4 (by kernel_rfl)
    (of_decide_eq_true (by kernel_rfl)) (by unfold Func.isWrapper; first | (rw [if_pos (by decide +kernel)]; kernel_rfl) | (rw [if_neg (by decide +kernel)]; exact ⟨rfl, rfl⟩))
    (fun os started H enc _ F => lifted os started H enc F)
end Go.Proofs.Ytnbeppnpfdempaa.applyStricts
namespace Go.Proofs.Ytnbeppnpfdempaa
/-- The row, under a short name, for the claim. -/
theorem applyStricts_holds : Rows.ApplyStrictsUptoSaid := applyStricts.proved
end Go.Proofs.Ytnbeppnpfdempaa
