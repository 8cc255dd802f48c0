/- HunksChecks: the law, out of the walk of its function and the plain law. No condition beyond the statement's own. -/
import Derived.Test.YtmnajajnbmlihaaRows
import Derived.Test.YtmnajajnbmlihaaZCVw
import Derived.Test.YtmnajajnbmlihaaZCVi
import Derived.Test.YtmnajajnbmlihaaZCHl
import Derived.WalkKit
import Derived.ProofKit
import Derived.OpenShut
import Derived.ShutString
import Derived.ChangeOld
import Derived.Below
import Derived.SizedLaws
namespace Go.Proofs.Ytmnajajnbmlihaa.hunksChecks
open Go.ChangeShapes Go.WideShapes Go.ChangeAt Go.RowKit
open Go.ChangeMaps (open_string shut_string)
open Go.Proofs.YtmnajajnbmlihaaW.PrintWords Go.Proofs.YtmnajajnbmlihaaW.PrintLast Go.Proofs.YtmnajajnbmlihaaW.PrintMore Go.Proofs.YtmnajajnbmlihaaW.LawWords
set_option linter.unusedVariables false
theorem own : ownKnob Try.prog.godebug = none := by kernel_rfl
theorem laidOut : laidOutB Try.prog = true := by kernel_rfl
theorem opens_mark : Opens Try.prog X.k46 46 (fun m : X.S46 => m.f1.size ≤ 140737488351232) := by
  intro H enc W base spare held fuel cs x hx hw
  obtain ⟨y, hy, _, b⟩ := (opens_struct Try.underlying46 (opensF_cons (opens_int Try.underlying5) (by kernel_rfl) rfl (opensF_one (opens_string Try.underlying9) (by kernel_rfl) rfl)) (by kernel_rfl) (fun x : X.S46 => (x.f0, x.f1)) (fun a => ⟨a.1, a.2⟩) (fun a => rfl)) hx hw
  exact ⟨y, hy, b⟩
theorem opens_hunk : Opens Try.prog X.k39 39 (fun h : X.S39 => h.f4.length * 24 ≤ 140737488351232 ∧ ∀ m ∈ h.f4, m.f1.size ≤ 140737488351232) := by
  intro H enc W base spare held fuel cs x hx hw
  obtain ⟨y, hy, _, _, _, _, _, b, c⟩ := (opens_struct Try.underlying39 (opensF_cons (opens_int Try.underlying3) (by kernel_rfl) rfl (opensF_cons (opens_int Try.underlying3) (by kernel_rfl) rfl (opensF_cons (opens_int Try.underlying3) (by kernel_rfl) rfl (opensF_cons (opens_int Try.underlying3) (by kernel_rfl) rfl (opensF_one (opens_slice Try.underlying37 opens_mark (by kernel_rfl) (b := 24) (by kernel_rfl)) (by kernel_rfl) rfl))))) (by kernel_rfl) (fun x : X.S39 => (x.f0, x.f1, x.f2, x.f3, x.f4)) (fun a => ⟨a.1, a.2.1, a.2.2.1, a.2.2.2.1, a.2.2.2.2⟩) (fun a => rfl)) hx hw
  exact ⟨y, hy, b, c⟩
/-- a hunk that came in -/
theorem open_hunk {H : Type} {enc : TypeId × Value → H} {W : World} {base : Nat} {spare : Nat → Bool} {held : Bool} {v : Value} {x : DataW H} {p : List MemPlace}
    (hf : DataW.Trod enc Try.prog W base spare held 39 v x p) (hc : ∃ vs : Array Value, v = .agg vs) (hw : ∀ n ∈ x.weights Try.prog 39, n ≤ reachBytes) :
    ∃ (a0 a1 a2 a3 : Int) (A : Option Addr) (c : Nat) (l : List X.S46), v = .agg #[.int .i64 a0, .int .i64 a1, .int .i64 a2, .int .i64 a3, .slice A l.length c] ∧ Kd.C X.k46 W A l.length l ∧ l.length ≤ c ∧ l.length * 24 ≤ 140737488351232 ∧ ∀ m ∈ l, m.f1.size ≤ 140737488351232 := by
  obtain ⟨fuel, hf⟩ := hf
  obtain ⟨y, hy, hb1, hb2⟩ := opens_hunk hf hw
  obtain ⟨A, c, e, hl, hr⟩ := X.k39_open hy
  obtain ⟨vs, rfl⟩ := hc
  refine ⟨y.f0, y.f1, y.f2, y.f3, A, c, y.f4, ?_, hr, hl, hb1, hb2⟩
  have e2 : vs.toList = [.int .i64 y.f0, .int .i64 y.f1, .int .i64 y.f2, .int .i64 y.f3, .slice A y.f4.length c] := by simpa [Value.cells] using e
  rw [← Array.toArray_toList (xs := vs), e2]
set_option maxRecDepth 100000 in
theorem lifted (os : Os) (started : os.Started) (H : Type) (enc : TypeId × Value → H) :
    ReturnsInHanded {} Try.checked os 4 .any (Rows.hunksChecksSpec.pre6 enc Try.prog Try.f4 Rows.hunksChecksRow.domain false) (Rows.hunksChecksSpec.post enc Try.prog Try.f4 false true false false) := by
  refine returnsInHanded_of_change_sized (C := Try.checked) own started (by kernel_rfl) Try.func4
    (ChangeSpec.witness6 (enc := enc) (C := Try.checked) false ⟨#[], #[.agg #[.int .i64 0, .int .i64 0, .int .i64 0, .int .i64 0, .slice none 0 0]], []⟩ 8 (by kernel_rfl) (by kernel_rfl) (by kernel_rfl) (by kernel_rfl)) ?_
  intro W base args ds gs before hval0 hW hcnd hsz0 _
  have hsz : (DataW.weightsEach Try.prog (Try.f4.params.toList ++ Rows.hunksChecksSpec.plain.varTypes Try.prog) (ds ++ gs)).all (· ≤ reachBytes) = true := hsz0
  have hval : ∀ (j : Nat) t v, Try.f4.params[j]? = some t → args[j]? = some v → Value.okWide Try.prog W .any base t v := hval0
  have hW' := hW
  obtain ⟨p, q, hA0, hV, rfl, hfz, hnd⟩ := hW
  have hA : DataW.TrodAll enc Try.prog W 0 (fun _ => true) true Try.f4.params.toList args.toList ds p := hA0
  rw [Try.params4] at hA hval hsz
  obtain ⟨v0, vs0, d0, ds0, p0, q0, hargs, rfl, rfl, h0, r0⟩ := trodAll_cons hA
  obtain ⟨rfl, rfl, rfl⟩ := trodAll_nil r0
  obtain rfl : args = #[v0] := by cases args; simp_all
  obtain ⟨rfl, rfl⟩ := trodVars_none hV
  have hwt : ∀ n ∈ d0.weights Try.prog 39, n ≤ reachBytes := fun n hn => by
    have := List.all_eq_true.1 hsz n (DataW.weights_mem_each (j := 0) (t := 39) (d := d0) rfl rfl n hn)
    simpa using this
  have hag : ∃ vs : Array Value, v0 = .agg vs := by obtain ⟨cs, e, _⟩ := okWide_struct Try.underlying39 (hval 0 39 v0 rfl rfl); exact ⟨cs, e⟩
  have k0 := h0
  have lt0 : ∀ x ∈ p0, x.block < W.heap.size := by obtain ⟨m, hm⟩ := k0; exact DataW.trod_lt m _ _ _ hm
  obtain ⟨a0, a1, a2, a3, A, c, l, rfl, hr0, hc0, hz0, hb0⟩ := open_hunk h0 hag hwt
  clear hA0 hval0 hsz0 hsz hwt hag
  obtain ⟨k, xo, xn, er, b0, b1, b2, b3, y, g1, g2, g3, g4, g5, g6, g7, g8, g9, g10, g11, g12, g13, g14⟩ := Q.H12.hc_all a0 a1 a2 a3 l (by omega) (fun m hm => Nat.le_trans (hb0 m hm) (by omega))
  refine (X.redlinelaw11_HunksChecks.walk k a0 a1 a2 a3 A c l xo xn er b0 b1 b2 b3 y W hr0 hc0 g1 g2 g3 g4 g5 g6 g7 g8 g9 g10 g11 g12 g13 g14).mono fun e W' ⟨he, bel⟩ => ?_
  subst he
  exact ⟨_, rfl, _, _, _, [], _, [], hW', trodAll_mk1 (shut_bool Try.underlying4 _), (trodAll_cons_mk (Below.trod laidOut (by kernel_rfl) (of_decide_eq_true (by kernel_rfl)) k0 bel lt0) trodAll_mk0), rfl, bel.frame _, fun h => by cases h⟩
theorem over : Rows.hunksChecksRow.holds Try.pinned (OpenSpec.ofChange Rows.hunksChecksSpec) :=
  OpenClaim.holds_of_wide 4 Try.f4 rfl rfl rfl rfl rfl rfl rfl ⟨rfl, rfl, rfl, rfl, rfl⟩ rfl rfl rfl rfl rfl (by kernel_rfl) Try.func4 (by kernel_rfl)
    (of_decide_eq_true (by kernel_rfl)) (by unfold Func.isWrapper; first | (rw [if_pos (by decide +kernel)]; kernel_rfl) | (rw [if_neg (by decide +kernel)]; exact ⟨rfl, rfl⟩))
    (fun os started H enc _ => lifted os started H enc)
theorem proved : Rows.HunksChecksSaid := over
end Go.Proofs.Ytmnajajnbmlihaa.hunksChecks
namespace Go.Proofs.Ytmnajajnbmlihaa
/-- The row, under a short name, for the claim. -/
theorem hunksChecks_holds : Rows.HunksChecksSaid := hunksChecks.proved
end Go.Proofs.Ytmnajajnbmlihaa
