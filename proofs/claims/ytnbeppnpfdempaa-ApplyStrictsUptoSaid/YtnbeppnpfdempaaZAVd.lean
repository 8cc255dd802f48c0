/- plain: what is wrong with a hunk: the program's answer and the reference's -/
import Derived.Test.YtnbeppnpfdempaaZAVc
import Derived.Test.YtnbeppnpfdempaaZAXx38
import Derived.Test.YtnbeppnpfdempaaZAXx44
import Derived.Test.YtnbeppnpfdempaaZAXx45
import Derived.Test.YtnbeppnpfdempaaZAXx58
import Derived.Test.YtnbeppnpfdempaaZAXx62
namespace Go.Proofs.Ytnbeppnpfdempaa.Q
set_option linter.unusedVariables false
set_option linter.unusedSimpArgs false
open Go.RowKit Go.Proofs.Ytnbeppnpfdempaa.X Go.Proofs.YtnbeppnpfdempaaW.PrintWords Go.Proofs.YtnbeppnpfdempaaW.PrintLast Go.Proofs.YtnbeppnpfdempaaW.PrintMore
namespace H12
def Sm (v : Int) : Prop := 0 ≤ v ∧ v ≤ 2147483647
instance (v : Int) : Decidable (Sm v) := by unfold Sm; exact inferInstance
theorem num_p (v : Int) : hunks_number.f v = some (decide (Sm v)) := by
  unfold hunks_number.f
  by_cases h : v ≥ 0
  · rw [if_pos h]
    by_cases h2 : v ≤ 2147483647
    · rw [decide_eq_true h2, decide_eq_true (show Sm v from ⟨h, h2⟩)]
    · rw [decide_eq_false h2, decide_eq_false (show ¬ Sm v from fun e => h2 e.2)]
  · rw [if_neg h, decide_eq_false (show ¬ Sm v from fun e => h e.1)]
theorem num_r (v : Int) : redlineref11_number.f v = some (decide (Sm v)) := by
  have : redlineref11_number.f v = hunks_number.f v := by unfold redlineref11_number.f hunks_number.f; rfl
  rw [this, num_p]
def badr (a b c e : Int) : Prop := ¬ (Sm a ∧ Sm b ∧ Sm c ∧ Sm e) ∨ (a = 0 ∧ b > 0) ∨ (c = 0 ∧ e > 0)
instance (a b c e : Int) : Decidable (badr a b c e) := by unfold badr; exact inferInstance
/-- what is wrong with a hunk -/
def ck (a b c e : Int) (ms : List Mk) : Int :=
  if badr a b c e then 2 else if RF ms = true then (if b = ((pk 45 ms).length : Int) ∧ e = ((pk 43 ms).length : Int) then (if ms.all (fun m => m.f0 == 32) = true then 50 else 0) else 120) else 6
theorem ixne_all : ∀ (ms : List Mk) (z : Int), 0 ≤ z → decide (ixne ms z ≥ 0) = !ms.all (fun m => m.f0 == 32)
  | [], z, _ => rfl
  | m :: ms, z, h => by
    rw [ixne, List.all_cons]
    by_cases h2 : m.f0 = 32
    · rw [if_pos h2, beq_iff_eq.mpr h2, Bool.true_and]
      exact ixne_all ms (z + 1) (by omega)
    · rw [if_neg h2, beq_eq_false_iff_ne.mpr h2, Bool.false_and, decide_eq_true (show z ≥ 0 from h)]
      rfl
section
variable (a b c e : Int) (ms : List Mk) (hl : ms.length ≤ 8000000000000)
include hl
theorem check_p : Ev (fun k => hunks_Check.f k a b c e ms) (ck a b c e ms) := by
  have hj : ∀ bb : Bool, (bb = true ↔ badr a b c e) → Ev (fun k => hunks_Check.j0 k 0 bb a b c e ms) (ck a b c e ms) := by
    intro bb hb
    apply Ev_unfold
    unfold ck
    cases bb with
    | true =>
      rw [if_pos (hb.1 rfl)]
      simp only [hunks_Check.j0, if_true]
      exact Ev.now _
    | false =>
      rw [if_neg (fun h => Bool.noConfusion (hb.2 h))]
      simp only [hunks_Check.j0, Bool.false_eq_true, if_false, fields_p, bsome]
      by_cases hr : RF ms = true
      case neg => simp only [if_neg hr]; exact Ev.now _
      simp only [if_pos hr]
      refine Ev.bind (old_p a b c e ms hl) ?_
      have hj1 : ∀ bb : Bool, (bb = false ↔ b = ((pk 45 ms).length : Int) ∧ e = ((pk 43 ms).length : Int)) → Ev (fun k => hunks_Check.j1 k 0 bb a b c e ms) (if b = ((pk 45 ms).length : Int) ∧ e = ((pk 43 ms).length : Int) then (if ms.all (fun m => m.f0 == 32) = true then 50 else 0) else 120) := by
        intro bb hb
        apply Ev_unfold
        cases bb with
        | true =>
          rw [if_neg (fun h => Bool.noConfusion (hb.2 h))]
          simp only [hunks_Check.j1, if_true]
          exact Ev.now _
        | false =>
          rw [if_pos (hb.1 rfl)]
          simp only [hunks_Check.j1, Bool.false_eq_true, if_false, api_Mark_61.f, bsome, ixne_all ms 0 (Int.le_refl 0)]
          cases ms.all (fun m => m.f0 == 32)
          · exact Ev.now _
          · exact Ev.now _
      by_cases h1 : b = ((pk 45 ms).length : Int)
      · simp only [if_pos h1]
        refine Ev.bind (new_p a b c e ms hl) ?_
        refine hj1 _ ?_
        rw [bne_eq_false_iff_eq]
        exact ⟨fun h => ⟨h1, h⟩, fun h => h.2⟩
      · simp only [if_neg h1]
        exact hj1 true ⟨(fun h => by cases h), fun h => absurd h.1 h1⟩
  unfold hunks_Check.f
  simp only [num_p, bsome]
  by_cases s0 : Sm a
  case neg => simp only [decide_eq_false s0, Bool.false_eq_true, if_false]; exact hj true ⟨fun _ => .inl (fun h => s0 h.1), fun _ => rfl⟩
  by_cases s1 : Sm b
  case neg => simp only [decide_eq_true s0, decide_eq_false s1, Bool.false_eq_true, if_false, if_true]; exact hj true ⟨fun _ => .inl (fun h => s1 h.2.1), fun _ => rfl⟩
  by_cases s2 : Sm c
  case neg => simp only [decide_eq_true s0, decide_eq_true s1, decide_eq_false s2, Bool.false_eq_true, if_false, if_true]; exact hj true ⟨fun _ => .inl (fun h => s2 h.2.2.1), fun _ => rfl⟩
  by_cases s3 : Sm e
  case neg => simp only [decide_eq_true s0, decide_eq_true s1, decide_eq_true s2, decide_eq_false s3, Bool.false_eq_true, if_false, if_true]; exact hj true ⟨fun _ => .inl (fun h => s3 h.2.2.2), fun _ => rfl⟩
  simp only [decide_eq_true s0, decide_eq_true s1, decide_eq_true s2, decide_eq_true s3, if_true]
  have q0 := s0; have q1 := s1; have q2 := s2; have q3 := s3
  unfold Sm at q0 q1 q2 q3
  have m1 : a < mn 1 b ↔ a = 0 ∧ b > 0 := by unfold mn; split <;> omega
  have m2 : c < mn 1 e ↔ c = 0 ∧ e > 0 := by unfold mn; split <;> omega
  by_cases h1 : a < mn 1 b
  · simp only [if_pos h1]; exact hj true ⟨fun _ => .inr (.inl (m1.1 h1)), fun _ => rfl⟩
  · simp only [if_neg h1]
    refine hj _ ?_
    rw [decide_eq_true_iff, m2]
    exact ⟨fun h => .inr (.inr h), fun h => h.elim (fun h => absurd ⟨s0, s1, s2, s3⟩ h) (fun h => h.elim (fun h => absurd (m1.2 h) h1) id)⟩
end
end H12
end Go.Proofs.Ytnbeppnpfdempaa.Q
