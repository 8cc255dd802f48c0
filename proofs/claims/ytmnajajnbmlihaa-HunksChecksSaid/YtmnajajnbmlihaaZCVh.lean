/- plain: the edit script of a row of hunks as the reference finds it; a copied row of hunks is the row; all is told equal -/
import Derived.Test.YtmnajajnbmlihaaZCVg
import Derived.Test.YtmnajajnbmlihaaZCXx23
import Derived.Test.YtmnajajnbmlihaaZCXx3
import Derived.Test.YtmnajajnbmlihaaZCXx34
import Derived.Test.YtmnajajnbmlihaaZCXx35
import Derived.Test.YtmnajajnbmlihaaZCXx4
import Derived.Test.YtmnajajnbmlihaaZCXx5
import Derived.Test.YtmnajajnbmlihaaZCXx6
namespace Go.Proofs.Ytmnajajnbmlihaa.Q
set_option linter.unusedVariables false
set_option linter.unusedSimpArgs false
open Go.RowKit Go.Proofs.Ytmnajajnbmlihaa.X Go.Proofs.YtmnajajnbmlihaaW.PrintWords Go.Proofs.YtmnajajnbmlihaaW.PrintLast Go.Proofs.YtmnajajnbmlihaaW.PrintMore
namespace H12
section
variable (l : List Hk) (hll : l.length ≤ 1000000000000000) (hl : ∀ h ∈ l, h.f4.length ≤ 8000000000000) (hs : ∀ h ∈ l, ∀ m ∈ h.f4, m.f1.size ≤ 1000000000000000000)
include hll hl
include hs
end
/-! a copy is the row itself -/
theorem copy_e (l : List Hk) (hll : l.length ≤ 2513169434916) (hl : ∀ h ∈ l, h.f4.length ≤ 5864062014804) : Ev (fun k => redlineref11_Copy.f k l) l := by
  have go : ∀ (d i : Nat) (out : List Hk), i + d = l.length → out.length = i → Ev (fun k => redlineref11_Copy.l0 k l out (i : Int)) (out ++ l.drop i) := by
    intro d
    induction d with
    | zero =>
      intro i out hi ho
      apply Ev_unfold
      rw [List.drop_eq_nil_of_le (show l.length ≤ i by omega), List.append_nil]
      simp only [redlineref11_Copy.l0, if_neg (show ¬ (i : Int) < (l.length : Int) by omega)]
      exact Ev.now _
    | succ d ih =>
      intro i out hi ho
      apply Ev_unfold
      have o2 : i < 4611686018427387904 := by omega
      have hm := hl _ (getHk_mem l i (by omega))
      have hgo := ih (i + 1) (out ++ [l.getD i zh]) (by omega) (by rw [List.length_append, List.length_singleton]; omega)
      rw [List.append_assoc, List.singleton_append, ← dropHk l i (by omega)] at hgo
      simp only [redlineref11_Copy.l0, if_pos (show (i : Int) < (l.length : Int) by omega), if_pos (show (0 : Int) ≤ (i : Int) by omega), rdHk_nat, bsome, List.length_nil, Nat.zero_add, if_pos (show (l.getD i zh).f4.length < 5864062014805 by omega), if_pos (show out.length < 2513169434916 by omega), List.nil_append, wadd i o2]
      exact hgo
  unfold redlineref11_Copy.f
  have := go l.length 0 [] (by omega) rfl
  rw [List.drop_zero, List.nil_append] at this
  exact this
/-! equal rows are told equal -/
theorem same_m (x0 x1 x2 x3 y0 y1 y2 y3 : Int) (ms : List Mk) (hl : ms.length ≤ 1000000000000000) : ∀ (d i : Nat), i + d = ms.length → Ev (fun k => redlineref11_Same.l0 k (i : Int) x0 x1 x2 x3 ms y0 y1 y2 y3 ms) true := by
  intro d
  induction d with
  | zero =>
    intro i hi
    apply Ev_unfold
    simp only [redlineref11_Same.l0, if_neg (show ¬ (i : Int) < (ms.length : Int) by omega)]
    exact Ev.now _
  | succ d ih =>
    intro i hi
    apply Ev_unfold
    have o2 : i < 4611686018427387904 := by omega
    simp only [redlineref11_Same.l0, if_pos (show (i : Int) < (ms.length : Int) by omega), if_pos (show (0 : Int) ≤ (i : Int) by omega), beq_self_eq_true, Bool.not_true, Bool.or_false, Bool.false_eq_true, if_false, wadd i o2]
    exact ih (i + 1) (by omega)
theorem same_h (x0 x1 x2 x3 : Int) (ms : List Mk) (hl : ms.length ≤ 1000000000000000) : Ev (fun k => redlineref11_Same.f k x0 x1 x2 x3 ms x0 x1 x2 x3 ms) true := by
  unfold redlineref11_Same.f
  simp only [if_true, bne_self_eq_false]
  apply Ev_unfold
  simp only [redlineref11_Same.j0, Bool.false_eq_true, if_false]
  exact same_m _ _ _ _ _ _ _ _ ms hl ms.length 0 (by omega)
end H12
end Go.Proofs.Ytmnajajnbmlihaa.Q
