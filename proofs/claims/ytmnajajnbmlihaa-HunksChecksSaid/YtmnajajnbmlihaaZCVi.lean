/- plain: the hunk that goes back: the program's answer and the reference's; all that the walk of HunksChecks asks for -/
import Derived.Test.YtmnajajnbmlihaaZCVh
import Derived.Test.YtmnajajnbmlihaaZCXx20
import Derived.Test.YtmnajajnbmlihaaZCXx25
import Derived.Test.YtmnajajnbmlihaaZCXx26
import Derived.Test.YtmnajajnbmlihaaZCXx3
import Derived.Test.YtmnajajnbmlihaaZCXx31
import Derived.Test.YtmnajajnbmlihaaZCXx36
import Derived.Test.YtmnajajnbmlihaaZCXx38
import Derived.Test.YtmnajajnbmlihaaZCXx39
import Derived.Test.YtmnajajnbmlihaaZCXx6
import Derived.Test.YtmnajajnbmlihaaZCXx8
import Derived.Test.YtmnajajnbmlihaaZCXx9
namespace Go.Proofs.Ytmnajajnbmlihaa.Q
set_option linter.unusedVariables false
set_option linter.unusedSimpArgs false
open Go.RowKit Go.Proofs.Ytmnajajnbmlihaa.X Go.Proofs.YtmnajajnbmlihaaW.PrintWords Go.Proofs.YtmnajajnbmlihaaW.PrintLast Go.Proofs.YtmnajajnbmlihaaW.PrintMore
namespace H12
theorem inv_r (l : List Mk) (hl : l.length ≤ 5864062014804) (a0 a1 a2 a3 : Int) : Ev (fun k => redlineref11_Invert.f k a0 a1 a2 a3 l) (a2, a3, a0, a1, (hi_go l [] []).1 ++ (hi_go l [] []).2) := by
  have go : ∀ (d i : Nat) (ms ad : List Mk), i + d = l.length → ms.length + ad.length = i → Ev (fun k => redlineref11_Invert.l0 k ad (i : Int) a0 a1 a2 a3 l a2 a3 a0 a1 ms) (a2, a3, a0, a1, (hi_go (l.drop i) ms ad).1 ++ (hi_go (l.drop i) ms ad).2) := by
    intro d
    induction d with
    | zero =>
      intro i ms ad hi ho
      apply Ev_unfold
      rw [List.drop_eq_nil_of_le (show l.length ≤ i by omega), hi_go]
      simp only [redlineref11_Invert.l0, if_neg (show ¬ (i : Int) < (l.length : Int) by omega), if_pos (show ms.length + ad.length < 5864062014805 by omega)]
      exact Ev.now _
    | succ d ih =>
      intro i ms ad hi ho
      apply Ev_unfold
      have o2 : i < 4611686018427387904 := by omega
      rw [dropMk l i (by omega), hi_go]
      obtain ⟨m, hm⟩ : ∃ m, l.getD i zm = m := ⟨_, rfl⟩
      simp only [redlineref11_Invert.l0, if_pos (show (i : Int) < (l.length : Int) by omega), if_pos (show (0 : Int) ≤ (i : Int) by omega), rdMk_nat, hm, bsome, List.length_singleton, wadd i o2]
      by_cases h1 : m.f0 = 43
      · simp only [if_pos h1, if_pos (show ms.length + 1 < 5864062014805 by omega)]
        exact ih (i + 1) _ _ (by omega) (by rw [List.length_append, List.length_singleton]; omega)
      · simp only [if_neg h1]
        by_cases h2 : m.f0 = 45
        · simp only [if_pos h2, if_pos (show ad.length + 1 < 5864062014805 by omega)]
          exact ih (i + 1) _ _ (by omega) (by rw [List.length_append, List.length_singleton]; omega)
        · simp only [if_neg h2, if_pos (show ms.length + ad.length < 5864062014805 by omega), if_pos (show (ms ++ ad).length + 1 < 5864062014805 by rw [List.length_append]; omega)]
          exact ih (i + 1) _ _ (by omega) (by rw [List.length_append, List.length_append, List.length_singleton, List.length_nil]; omega)
  unfold redlineref11_Invert.f
  have := go l.length 0 [] [] (by omega) rfl
  rw [List.drop_zero] at this
  exact this
theorem same_s (x : List ByteArray) (hl : x.length ≤ 1000000000000000) : Ev (fun k => redlineref01_SameStrings.f k x x) true := by
  have go : ∀ (d i : Nat), i + d = x.length → Ev (fun k => redlineref01_SameStrings.l0 k x x (i : Int)) true := by
    intro d
    induction d with
    | zero =>
      intro i hi
      apply Ev_unfold
      simp only [redlineref01_SameStrings.l0, if_neg (show ¬ (i : Int) < (x.length : Int) by omega)]
      exact Ev.now _
    | succ d ih =>
      intro i hi
      apply Ev_unfold
      have o2 : i < 4611686018427387904 := by omega
      simp only [redlineref01_SameStrings.l0, if_pos (show (i : Int) < (x.length : Int) by omega), if_pos (show (0 : Int) ≤ (i : Int) by omega), if_true, wadd i o2]
      exact ih (i + 1) (by omega)
  unfold redlineref01_SameStrings.f
  simp only [if_true]
  exact go x.length 0 (by omega)
theorem pk_len (s : Int) (ms : List Mk) : (pk s ms).length ≤ ms.length := by
  unfold pk
  rw [List.length_map]
  exact List.length_filter_le _ _
/-- all that the law's walk asks for -/
theorem hc_all (a b c e : Int) (ms : List Mk) (hl : ms.length ≤ 5864062014804) (hs : ∀ m ∈ ms, m.f1.size ≤ 1000000000000000000) : ∃ (k : Nat) (xo xn : List ByteArray) (er b0 b1 b2 b3 : Int) (y : List Mk),
    redlineref11_Copy.f k [(⟨a, b, c, e, ms⟩ : Hk)] = some [(⟨a, b, c, e, ms⟩ : Hk)] ∧ hunks_Old.f k a b c e ms = some xo ∧ hunks_New.f k a b c e ms = some xn ∧ redlineref11_Old.f k a b c e ms = some xo ∧ redlineref11_New.f k a b c e ms = some xn ∧
    hunks_Check.f k a b c e ms = some er ∧ redlineref11_Check.f k a b c e ms = some er ∧ redlineref01_SameStrings.f k xo xo = some true ∧ redlineref01_SameStrings.f k xn xn = some true ∧
    hunks_Invert.f a b c e ms = some (b0, b1, b2, b3, y) ∧ redlineref11_Invert.f k a b c e ms = some (b0, b1, b2, b3, y) ∧ redlineref11_Same.f k b0 b1 b2 b3 y b0 b1 b2 b3 y = some true ∧ redlineref11_Same.f k a b c e ms a b c e ms = some true ∧ y.length ≤ 1000000000000000 := by
  have h8 : ms.length ≤ 8000000000000 := by omega
  have hg := hi_go_len ms [] []
  simp only [List.length_nil, Nat.zero_add] at hg
  have hy : ((hi_go ms [] []).1 ++ (hi_go ms [] []).2).length ≤ 1000000000000000 := by rw [List.length_append]; omega
  have l1 := pk_len 45 ms
  have l2 := pk_len 43 ms
  obtain ⟨K1, h1⟩ := copy_e [(⟨a, b, c, e, ms⟩ : Hk)] (by simp) (fun h hh => by rw [List.mem_singleton] at hh; subst hh; exact hl)
  obtain ⟨K2, h2⟩ := old_p a b c e ms h8
  obtain ⟨K3, h3⟩ := new_p a b c e ms h8
  obtain ⟨K4, h4⟩ := old_r a b c e ms h8
  obtain ⟨K5, h5⟩ := new_r a b c e ms h8
  obtain ⟨K6, h6⟩ := check_p a b c e ms h8
  obtain ⟨K7, h7⟩ := check_r a b c e ms h8 hs
  obtain ⟨K8, h8'⟩ := same_s (pk 45 ms) (by omega)
  obtain ⟨K9, h9⟩ := same_s (pk 43 ms) (by omega)
  obtain ⟨K10, h10⟩ := inv_r ms hl a b c e
  obtain ⟨K11, h11⟩ := same_h c e a b ((hi_go ms [] []).1 ++ (hi_go ms [] []).2) hy
  obtain ⟨K12, h12⟩ := same_h a b c e ms (by omega)
  obtain ⟨K, hK⟩ : ∃ K, K = K1 + K2 + K3 + K4 + K5 + K6 + K7 + K8 + K9 + K10 + K11 + K12 := ⟨_, rfl⟩
  have h13 : hunks_Invert.f a b c e ms = some (c, e, a, b, (hi_go ms [] []).1 ++ (hi_go ms [] []).2) := if_pos hl
  exact ⟨K, pk 45 ms, pk 43 ms, ck a b c e ms, c, e, a, b, (hi_go ms [] []).1 ++ (hi_go ms [] []).2, h1 K (by omega), h2 K (by omega), h3 K (by omega), h4 K (by omega), h5 K (by omega), h6 K (by omega), h7 K (by omega), h8' K (by omega), h9 K (by omega), h13, h10 K (by omega), h11 K (by omega), h12 K (by omega), hy⟩
end H12
end Go.Proofs.Ytmnajajnbmlihaa.Q
