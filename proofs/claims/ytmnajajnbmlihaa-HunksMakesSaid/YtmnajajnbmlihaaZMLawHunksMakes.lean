/- HunksMakes: the law, out of the walk of its function and the plain law. No condition beyond the statement's own. -/
import Derived.Test.YtmnajajnbmlihaaRows
import Derived.Test.YtmnajajnbmlihaaZMUw
import Derived.Test.YtmnajajnbmlihaaZMUe
import Derived.Test.YtmnajajnbmlihaaZMHl
import Derived.WalkKit
import Derived.ProofKit
import Derived.OpenShut
import Derived.ShutString
import Derived.ChangeOld
import Derived.Below
import Derived.SizedLaws
namespace Go.Proofs.Ytmnajajnbmlihaa.hunksMakes
open Go.ChangeShapes Go.WideShapes Go.ChangeAt Go.RowKit
open Go.ChangeMaps (open_string shut_string)
open Go.Proofs.YtmnajajnbmlihaaW.PrintWords Go.Proofs.YtmnajajnbmlihaaW.PrintLast Go.Proofs.YtmnajajnbmlihaaW.PrintMore Go.Proofs.YtmnajajnbmlihaaW.LawWords
set_option linter.unusedVariables false
theorem own : ownKnob Try.prog.godebug = none := by kernel_rfl
theorem laidOut : laidOutB Try.prog = true := by kernel_rfl
theorem opens_change : ∃ B, Opens Try.prog X.k35 35 B :=
  ⟨_, opens_struct Try.underlying35 (opensF_cons (opens_int Try.underlying3) (by kernel_rfl) rfl (opensF_cons (opens_int Try.underlying3) (by kernel_rfl) rfl (opensF_cons (opens_int Try.underlying3) (by kernel_rfl) rfl (opensF_one (opens_int Try.underlying3) (by kernel_rfl) rfl)))) (by kernel_rfl) (fun x : X.S35 => (x.f0, x.f1, x.f2, x.f3)) (fun a => ⟨a.1, a.2.1, a.2.2.1, a.2.2.2⟩) (fun a => rfl)⟩
/-- a row that came in -/
theorem open_row {α : Type} {d : Kd α} {t e : TypeId} {B : List α → Prop} (h : Opens Try.prog (Kd.slice e d) t B) {H : Type} {enc : TypeId × Value → H} {W : World} {base : Nat} {spare : Nat → Bool} {held : Bool} {a : Option Addr} {len cap : Nat} {x : DataW H} {p : List MemPlace}
    (hf : DataW.Trod enc Try.prog W base spare held t (.slice a len cap) x p) (hw : ∀ n ∈ x.weights Try.prog t, n ≤ reachBytes) : ∃ ys : List α, ys.length = len ∧ d.C W a ys.length ys ∧ ys.length ≤ cap ∧ B ys := by
  obtain ⟨fuel, hf⟩ := hf
  obtain ⟨ys, ⟨a', c', e1, e2, e3⟩, hB⟩ := h hf hw
  simp [Value.cells] at e1
  obtain ⟨rfl, rfl, rfl⟩ := e1
  exact ⟨ys, rfl, e3, e2, hB⟩
set_option maxRecDepth 100000 in
theorem lifted (os : Os) (started : os.Started) (H : Type) (enc : TypeId × Value → H) :
    ReturnsInHanded {} Try.checked os 3 .any (Rows.hunksMakesSpec.pre6 enc Try.prog Try.f3 Rows.hunksMakesRow.domain false) (Rows.hunksMakesSpec.post enc Try.prog Try.f3 false true false false) := by
  refine returnsInHanded_of_change_sized (C := Try.checked) own started (by kernel_rfl) Try.func3
    (ChangeSpec.witness6 (enc := enc) (C := Try.checked) false ⟨#[], #[.slice none 0 0, .slice none 0 0, .slice none 0 0, .int .i64 0], []⟩ 8 (by kernel_rfl) (by kernel_rfl) (by kernel_rfl) (by kernel_rfl)) ?_
  intro W base args ds gs before hval0 hW hcnd hsz0 _
  have hsz : (DataW.weightsEach Try.prog (Try.f3.params.toList ++ Rows.hunksMakesSpec.plain.varTypes Try.prog) (ds ++ gs)).all (· ≤ reachBytes) = true := hsz0
  have hval : ∀ (j : Nat) t v, Try.f3.params[j]? = some t → args[j]? = some v → Value.okWide Try.prog W .any base t v := hval0
  have hW' := hW
  obtain ⟨p, q, hA0, hV, rfl, hfz, hnd⟩ := hW
  have hA : DataW.TrodAll enc Try.prog W 0 (fun _ => true) true Try.f3.params.toList args.toList ds p := hA0
  rw [Try.params3] at hA hval hsz
  obtain ⟨v0, vs0, d0, ds0, p0, q0, hargs, rfl, rfl, h0, r0⟩ := trodAll_cons hA
  obtain ⟨v1, vs1, d1, ds1, p1, q1, rfl, rfl, rfl, h1, r1⟩ := trodAll_cons r0
  obtain ⟨v2, vs2, d2, ds2, p2, q2, rfl, rfl, rfl, h2, r2⟩ := trodAll_cons r1
  obtain ⟨v3, vs3, d3, ds3, p3, q3, rfl, rfl, rfl, h3, r3⟩ := trodAll_cons r2
  obtain ⟨rfl, rfl, rfl⟩ := trodAll_nil r3
  obtain rfl : args = #[v0, v1, v2, v3] := by cases args; simp_all
  obtain ⟨rfl, rfl⟩ := trodVars_none hV
  have hwt : ∀ (j : Nat) t d, [22, 23, 23, 3][j]? = some t → [d0, d1, d2, d3][j]? = some d → ∀ n ∈ d.weights Try.prog t, n ≤ reachBytes := fun j t d h1 h2 n hn => by
    have := List.all_eq_true.1 hsz n (DataW.weights_mem_each (j := j) (by rw [List.getElem?_append_left (by have := (List.getElem?_eq_some_iff.1 h1).1; simpa using this)]; exact h1) (by rw [List.getElem?_append_left (by have := (List.getElem?_eq_some_iff.1 h2).1; simpa using this)]; exact h2) n hn)
    simpa using this
  obtain ⟨a0, len0, cap0, rfl⟩ := okWide_slice Try.underlying22 (hval 0 22 v0 rfl rfl)
  have k0 := h0
  have lt0 : ∀ x ∈ p0, x.block < W.heap.size := by obtain ⟨m, hm⟩ := k0; exact DataW.trod_lt m _ _ _ hm
  obtain ⟨a1, len1, cap1, rfl⟩ := okWide_slice Try.underlying23 (hval 1 23 v1 rfl rfl)
  have k1 := h1
  have lt1 : ∀ x ∈ p1, x.block < W.heap.size := by obtain ⟨m, hm⟩ := k1; exact DataW.trod_lt m _ _ _ hm
  obtain ⟨a2, len2, cap2, rfl⟩ := okWide_slice Try.underlying23 (hval 2 23 v2 rfl rfl)
  have k2 := h2
  have lt2 : ∀ x ∈ p2, x.block < W.heap.size := by obtain ⟨m, hm⟩ := k2; exact DataW.trod_lt m _ _ _ hm
  have k3 := h3
  have lt3 : ∀ x ∈ p3, x.block < W.heap.size := by obtain ⟨m, hm⟩ := k3; exact DataW.trod_lt m _ _ _ hm
  obtain ⟨B, hB⟩ := opens_change
  obtain ⟨l0, e0, hr0, hc0, hm0, hz0, _⟩ := open_row (opens_slice Try.underlying22 hB (by kernel_rfl) (b := 32) (by kernel_rfl)) h0 (hwt 0 _ _ rfl rfl)
  obtain ⟨l1, e1, hr1, hc1, hm1, hz1, _⟩ := open_row (opens_slice Try.underlying23 (opens_string Try.underlying9) (by kernel_rfl) (b := 16) (by kernel_rfl)) h1 (hwt 1 _ _ rfl rfl)
  obtain ⟨l2, e2, hr2, hc2, hm2, hz2, _⟩ := open_row (opens_slice Try.underlying23 (opens_string Try.underlying9) (by kernel_rfl) (b := 16) (by kernel_rfl)) h2 (hwt 2 _ _ rfl rfl)
  obtain ⟨a3, ev3, ed3, ep3, w3⟩ := open_int Try.underlying3 (hval 3 3 v3 rfl rfl) h3
  subst ev3
  clear hA0 hval0 hsz0 hsz hwt hB
  subst e0 e1 e2
  obtain ⟨k, x, e, g, hh, g1, g2, g3, g4, g5, g6, g7, g8, g9⟩ := Q.H11.makes_all l1 l2 (by omega) (by omega) l0 (by omega) a3
  refine (X.redlinelaw11_HunksMakes.walk k _ _ l0 _ _ l1 _ _ l2 a3 x e g hh W hr0 hc0 hr1 hc1 hr2 hc2 hz0 hz1 hz2 g1 g2 g3 g4 g5 g6 g7 g8 g9).mono fun e W' ⟨he, bel⟩ => ?_
  subst he
  exact ⟨_, rfl, _, _, _, [], _, [], hW', trodAll_mk1 (shut_bool Try.underlying4 _), (trodAll_cons_mk (Below.trod laidOut (by kernel_rfl) (of_decide_eq_true (by kernel_rfl)) k0 bel lt0) (trodAll_cons_mk (Below.trod laidOut (by kernel_rfl) (of_decide_eq_true (by kernel_rfl)) k1 bel lt1) (trodAll_cons_mk (Below.trod laidOut (by kernel_rfl) (of_decide_eq_true (by kernel_rfl)) k2 bel lt2) (trodAll_cons_mk (Below.trod laidOut (by kernel_rfl) (of_decide_eq_true (by kernel_rfl)) k3 bel lt3) trodAll_mk0)))), rfl, bel.frame _, fun h => by cases h⟩
theorem over : Rows.hunksMakesRow.holds Try.pinned (OpenSpec.ofChange Rows.hunksMakesSpec) :=
  OpenClaim.holds_of_wide 3 Try.f3 rfl rfl rfl rfl rfl rfl rfl ⟨rfl, rfl, rfl, rfl, rfl⟩ rfl rfl rfl rfl rfl (by kernel_rfl) Try.func3 (by kernel_rfl)
    (of_decide_eq_true (by kernel_rfl)) (by unfold Func.isWrapper; first | (rw [if_pos (by decide +kernel)]; kernel_rfl) | (rw [if_neg (by decide +kernel)]; exact ⟨rfl, rfl⟩))
    (fun os started H enc _ => lifted os started H enc)
theorem proved : Rows.HunksMakesSaid := over
end Go.Proofs.Ytmnajajnbmlihaa.hunksMakes
namespace Go.Proofs.Ytmnajajnbmlihaa
/-- The row, under a short name, for the claim. -/
theorem hunksMakes_holds : Rows.HunksMakesSaid := hunksMakes.proved
end Go.Proofs.Ytmnajajnbmlihaa
