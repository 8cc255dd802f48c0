/- plain: what is wrong with a hunk: the reference's answer; and what is wrong with a row of them, by both -/
import Derived.Test.YtnbeppnpfdempaaZAVd
import Derived.Test.YtnbeppnpfdempaaZAXx46
import Derived.Test.YtnbeppnpfdempaaZAXx47
import Derived.Test.YtnbeppnpfdempaaZAXx54
import Derived.Test.YtnbeppnpfdempaaZAXx62
import Derived.Test.YtnbeppnpfdempaaZAXx63
namespace Go.Proofs.Ytnbeppnpfdempaa.Q
set_option linter.unusedVariables false
set_option linter.unusedSimpArgs false
open Go.RowKit Go.Proofs.Ytnbeppnpfdempaa.X Go.Proofs.YtnbeppnpfdempaaW.PrintWords Go.Proofs.YtnbeppnpfdempaaW.PrintLast Go.Proofs.YtnbeppnpfdempaaW.PrintMore
namespace H12
theorem all_r (a b c e : Int) (ms : List Mk) (hl : ms.length ≤ 8000000000000) : ∀ (d i : Nat), i + d = ms.length → Ev (fun k => redlineref11_Check.l0 k (i : Int) a b c e ms) (if (ms.drop i).all (fun m => m.f0 == 32) = true then 50 else 0) := by
  intro d
  induction d with
  | zero =>
    intro i hi
    apply Ev_unfold
    rw [List.drop_eq_nil_of_le (show ms.length ≤ i by omega)]
    simp only [redlineref11_Check.l0, if_neg (show ¬ (i : Int) < (ms.length : Int) by omega)]
    exact Ev.now _
  | succ d ih =>
    intro i hi
    apply Ev_unfold
    rw [dropMk ms i (by omega), List.all_cons]
    have o2 : i < 4611686018427387904 := by omega
    simp only [redlineref11_Check.l0, if_pos (show (i : Int) < (ms.length : Int) by omega), if_pos (show (0 : Int) ≤ (i : Int) by omega), rdMk_nat, wadd i o2]
    by_cases h : (ms.getD i zm).f0 = 32
    · rw [beq_iff_eq.mpr h, Bool.true_and]
      simp only [if_pos h]
      exact ih (i + 1) (by omega)
    · rw [beq_eq_false_iff_ne.mpr h, Bool.false_and]
      simp only [if_neg h]
      exact Ev.now _
section
variable (a b c e : Int) (ms : List Mk) (hl : ms.length ≤ 8000000000000) (hs : ∀ m ∈ ms, m.f1.size ≤ 1000000000000000000)
include hl hs
theorem check_r : Ev (fun k => redlineref11_Check.f k a b c e ms) (ck a b c e ms) := by
  have hj : ∀ bb : Bool, (bb = true ↔ badr a b c e) → Ev (fun k => redlineref11_Check.j0 k bb a b c e ms) (ck a b c e ms) := by
    intro bb hb
    apply Ev_unfold
    unfold ck
    cases bb with
    | true =>
      rw [if_pos (hb.1 rfl)]
      simp only [redlineref11_Check.j0, if_true]
      exact Ev.now _
    | false =>
      rw [if_neg (fun h => Bool.noConfusion (hb.2 h))]
      simp only [redlineref11_Check.j0, Bool.false_eq_true, if_false]
      refine Ev.bind (fields_r a b c e ms (by omega) hs) ?_
      by_cases hr : RF ms = true
      case neg => simp only [if_neg hr]; exact Ev.now _
      simp only [if_pos hr]
      refine Ev.bind (old_r a b c e ms hl) ?_
      have hj1 : ∀ bb : Bool, (bb = false ↔ b = ((pk 45 ms).length : Int) ∧ e = ((pk 43 ms).length : Int)) → Ev (fun k => redlineref11_Check.j1 k bb a b c e ms) (if b = ((pk 45 ms).length : Int) ∧ e = ((pk 43 ms).length : Int) then (if ms.all (fun m => m.f0 == 32) = true then 50 else 0) else 120) := by
        intro bb hb
        apply Ev_unfold
        cases bb with
        | true =>
          rw [if_neg (fun h => Bool.noConfusion (hb.2 h))]
          simp only [redlineref11_Check.j1, if_true]
          exact Ev.now _
        | false =>
          rw [if_pos (hb.1 rfl)]
          simp only [redlineref11_Check.j1, Bool.false_eq_true, if_false]
          exact all_r a b c e ms hl ms.length 0 (by omega)
      by_cases h1 : b = ((pk 45 ms).length : Int)
      · simp only [if_pos h1]
        refine Ev.bind (new_r a b c e ms hl) ?_
        refine hj1 _ ?_
        rw [bne_eq_false_iff_eq]
        exact ⟨fun h => ⟨h1, h⟩, fun h => h.2⟩
      · simp only [if_neg h1]
        exact hj1 true ⟨(fun h => by cases h), fun h => absurd h.1 h1⟩
  unfold redlineref11_Check.f
  simp only [num_r, bsome]
  by_cases s0 : Sm a
  case neg => simp only [decide_eq_false s0, Bool.false_eq_true, if_false]; exact hj true ⟨fun _ => .inl (fun h => s0 h.1), fun _ => rfl⟩
  by_cases s1 : Sm b
  case neg => simp only [decide_eq_true s0, decide_eq_false s1, Bool.false_eq_true, if_false, if_true]; exact hj true ⟨fun _ => .inl (fun h => s1 h.2.1), fun _ => rfl⟩
  by_cases s2 : Sm c
  case neg => simp only [decide_eq_true s0, decide_eq_true s1, decide_eq_false s2, Bool.false_eq_true, if_false, if_true]; exact hj true ⟨fun _ => .inl (fun h => s2 h.2.2.1), fun _ => rfl⟩
  by_cases s3 : Sm e
  case neg => simp only [decide_eq_true s0, decide_eq_true s1, decide_eq_true s2, decide_eq_false s3, Bool.false_eq_true, if_false, if_true]; exact hj true ⟨fun _ => .inl (fun h => s3 h.2.2.2), fun _ => rfl⟩
  simp only [decide_eq_true s0, decide_eq_true s1, decide_eq_true s2, decide_eq_true s3, if_true]
  have hc : ¬ (a = 0 ∧ b > 0) → Ev (fun k => if c = 0 then redlineref11_Check.j0 k (decide (e > 0)) a b c e ms else redlineref11_Check.j0 k false a b c e ms) (ck a b c e ms) := fun h1 => by
    by_cases h2 : c = 0
    · simp only [if_pos h2]
      refine hj _ ?_
      rw [decide_eq_true_iff]
      exact ⟨fun h => .inr (.inr ⟨h2, h⟩), fun h => h.elim (fun h => absurd ⟨s0, s1, s2, s3⟩ h) (fun h => h.elim (fun h => absurd h h1) (fun h => h.2))⟩
    · simp only [if_neg h2]
      exact hj false ⟨(fun h => by cases h), fun h => h.elim (fun h => absurd ⟨s0, s1, s2, s3⟩ h) (fun h => h.elim (fun h => absurd h h1) (fun h => absurd h.1 h2))⟩
  by_cases h0 : a = 0
  · simp only [if_pos h0]
    by_cases h1 : b > 0
    · simp only [if_pos h1]
      exact hj true ⟨fun _ => .inr (.inl ⟨h0, h1⟩), fun _ => rfl⟩
    · simp only [if_neg h1]
      exact hc (fun h => h1 h.2)
  · simp only [if_neg h0]
    exact hc (fun h => h0 h.1)
end
end H12
end Go.Proofs.Ytnbeppnpfdempaa.Q
