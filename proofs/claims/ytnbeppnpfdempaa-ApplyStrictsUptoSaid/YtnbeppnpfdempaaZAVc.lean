/- plain: which hunks are right: the program's answer and the reference's, joined -/
import Derived.Test.YtnbeppnpfdempaaZAVb
import Derived.Test.YtnbeppnpfdempaaZAXx34
import Derived.Test.YtnbeppnpfdempaaZAXx35
import Derived.Test.YtnbeppnpfdempaaZAXx36
import Derived.Test.YtnbeppnpfdempaaZAXx38
import Derived.Test.YtnbeppnpfdempaaZAXx45
import Derived.Test.YtnbeppnpfdempaaZAXx55
import Derived.Test.YtnbeppnpfdempaaZAXx56
import Derived.Test.YtnbeppnpfdempaaZAXx57
import Derived.Test.YtnbeppnpfdempaaZAXx58
import Derived.Test.YtnbeppnpfdempaaZAXx62
namespace Go.Proofs.Ytnbeppnpfdempaa.Q
set_option linter.unusedVariables false
set_option linter.unusedSimpArgs false
open Go.RowKit Go.Proofs.Ytnbeppnpfdempaa.X Go.Proofs.YtnbeppnpfdempaaW.PrintWords Go.Proofs.YtnbeppnpfdempaaW.PrintLast Go.Proofs.YtnbeppnpfdempaaW.PrintMore
namespace H12
def pk (s : Int) (ms : List Mk) : List ByteArray := (ms.filter fun m => m.f0 == 32 || m.f0 == s).map fun m => m.f1
theorem pk_cons (s : Int) (m : Mk) (ms : List Mk) : pk s (m :: ms) = if m.f0 = 32 ∨ m.f0 = s then m.f1 :: pk s ms else pk s ms := by
  unfold pk
  by_cases h : m.f0 = 32 ∨ m.f0 = s
  · rw [if_pos h, List.filter_cons_of_pos (by simpa using h), List.map_cons]
  · rw [if_neg h, List.filter_cons_of_neg (by simpa using h)]
theorem pick_p (s : Int) (ms : List Mk) (hl : ms.length ≤ 8000000000000) : ∀ (d i : Nat) (out : List ByteArray), i + d = ms.length → out.length ≤ i → Ev (fun k => hunks_pick.l0 k s out ms (ms.length : Int) (i : Int)) (out ++ pk s (ms.drop i)) := by
  intro d
  induction d with
  | zero =>
    intro i out hi ho
    apply Ev_unfold
    have e : out ++ pk s (ms.drop i) = out := by rw [List.drop_eq_nil_of_le (show ms.length ≤ i by omega)]; unfold pk; simp
    rw [e]
    simp only [hunks_pick.l0, if_neg (show ¬ (i : Int) < (ms.length : Int) by omega)]
    exact Ev.now _
  | succ d ih =>
    intro i out hi ho
    apply Ev_unfold
    rw [dropMk ms i (by omega), pk_cons]
    have o2 : i < 4611686018427387904 := by omega
    have o3 : out.length < 8796093022208 := by omega
    obtain ⟨m, hm⟩ : ∃ m, ms.getD i zm = m := ⟨_, rfl⟩
    have hgo := ih (i + 1) (out ++ [m.f1]) (by omega) (by rw [List.length_append, List.length_singleton]; omega)
    rw [List.append_assoc, List.singleton_append] at hgo
    simp only [hunks_pick.l0, if_pos (show (i : Int) < (ms.length : Int) by omega), if_pos (show (0 : Int) ≤ (i : Int) by omega), rdMk_nat, hm, wadd i o2]
    by_cases h : m.f0 = s
    · rw [if_pos (.inr h)]
      simp only [if_pos h, if_pos o3]
      exact hgo
    · simp only [if_neg h]
      by_cases h2 : m.f0 = 32
      · rw [if_pos (.inl h2)]
        simp only [if_pos h2, if_pos o3]
        exact hgo
      · rw [if_neg (fun e => e.elim h2 h)]
        simp only [if_neg h2]
        exact ih (i + 1) out (by omega) (by omega)
theorem pick_r (s n : Int) (hsn : (s = 45 ∧ n = 43) ∨ (s = 43 ∧ n = 45)) (a b c e : Int) (ms : List Mk) (hl : ms.length ≤ 8000000000000) : ∀ (d i : Nat) (out : List ByteArray), i + d = ms.length → out.length ≤ i → Ev (fun k => redlineref11_pick.l0 k n out (i : Int) a b c e ms) (out ++ pk s (ms.drop i)) := by
  intro d
  induction d with
  | zero =>
    intro i out hi ho
    apply Ev_unfold
    have e : out ++ pk s (ms.drop i) = out := by rw [List.drop_eq_nil_of_le (show ms.length ≤ i by omega)]; unfold pk; simp
    rw [e]
    simp only [redlineref11_pick.l0, if_neg (show ¬ (i : Int) < (ms.length : Int) by omega)]
    exact Ev.now _
  | succ d ih =>
    intro i out hi ho
    apply Ev_unfold
    rw [dropMk ms i (by omega), pk_cons]
    have o2 : i < 4611686018427387904 := by omega
    have o3 : out.length < 8796093022208 := by omega
    obtain ⟨m, hm⟩ : ∃ m, ms.getD i zm = m := ⟨_, rfl⟩
    have hgo := ih (i + 1) (out ++ [m.f1]) (by omega) (by rw [List.length_append, List.length_singleton]; omega)
    have hsk := ih (i + 1) out (by omega) (by omega)
    rw [List.append_assoc, List.singleton_append] at hgo
    simp only [redlineref11_pick.l0, if_pos (show (i : Int) < (ms.length : Int) by omega), if_pos (show (0 : Int) ≤ (i : Int) by omega), rdMk_nat, hm, wadd i o2]
    by_cases h : m.f0 = n
    · rw [if_neg (show ¬ (m.f0 = 32 ∨ m.f0 = s) by omega)]
      simp only [if_pos h]
      exact hsk
    · simp only [if_neg h]
      by_cases h2 : m.f0 = 32
      · rw [if_pos (.inl h2)]
        simp only [if_pos h2, if_pos o3]
        exact hgo
      · simp only [if_neg h2]
        by_cases h3 : m.f0 = 45
        · rw [if_pos (show m.f0 = 32 ∨ m.f0 = s by omega)]
          simp only [if_pos h3, if_pos o3]
          exact hgo
        · simp only [if_neg h3]
          by_cases h4 : m.f0 = 43
          · rw [if_pos (show m.f0 = 32 ∨ m.f0 = s by omega)]
            simp only [if_pos h4, if_pos o3]
            exact hgo
          · rw [if_neg (show ¬ (m.f0 = 32 ∨ m.f0 = s) by omega)]
            simp only [if_neg h4]
            exact hsk
section
variable (a b c e : Int) (ms : List Mk) (hl : ms.length ≤ 8000000000000)
include hl
theorem old_p : Ev (fun k => hunks_Old.f k a b c e ms) (pk 45 ms) := by
  unfold hunks_Old.f hunks_pick.f
  refine Ev.bind (pick_p 45 ms hl ms.length 0 [] (by omega) (by simp)) ?_
  rw [List.drop_zero, List.nil_append]
  exact Ev.now _
theorem new_p : Ev (fun k => hunks_New.f k a b c e ms) (pk 43 ms) := by
  unfold hunks_New.f hunks_pick.f
  refine Ev.bind (pick_p 43 ms hl ms.length 0 [] (by omega) (by simp)) ?_
  rw [List.drop_zero, List.nil_append]
  exact Ev.now _
theorem old_r : Ev (fun k => redlineref11_Old.f k a b c e ms) (pk 45 ms) := by
  unfold redlineref11_Old.f redlineref11_pick.f
  refine Ev.bind (pick_r 45 43 (.inl ⟨rfl, rfl⟩) a b c e ms hl ms.length 0 [] (by omega) (by simp)) ?_
  rw [List.drop_zero, List.nil_append]
  exact Ev.now _
theorem new_r : Ev (fun k => redlineref11_New.f k a b c e ms) (pk 43 ms) := by
  unfold redlineref11_New.f redlineref11_pick.f
  refine Ev.bind (pick_r 43 45 (.inr ⟨rfl, rfl⟩) a b c e ms hl ms.length 0 [] (by omega) (by simp)) ?_
  rw [List.drop_zero, List.nil_append]
  exact Ev.now _
end
end H12
end Go.Proofs.Ytnbeppnpfdempaa.Q
