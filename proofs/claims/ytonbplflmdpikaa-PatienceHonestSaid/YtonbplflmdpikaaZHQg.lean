/- More on the least script: it is well made, it is empty just for the same texts; SameInts tells whether two rows are the same. -/
import Derived.Test.YtonbplflmdpikaaZHQb
import Derived.Test.YtonbplflmdpikaaZHQa
namespace Go.Proofs.Ytonbplflmdpikaa.Q
set_option linter.unusedVariables false
set_option linter.unusedSimpArgs false
open Go.RowKit Go.Proofs.Ytonbplflmdpikaa.X Go.Proofs.YtonbplflmdpikaaW.PrintWords Go.Proofs.YtonbplflmdpikaaW.PrintLast Go.Proofs.YtonbplflmdpikaaW.PrintMore
theorem okK_neg (m : Int) (n : Nat) : ∀ last, okK m (List.replicate n (-1)) last = true := by
  induction n with
  | zero => intro last; rfl
  | succ n ih => intro last; rw [List.replicate_succ, okK, if_pos rfl]; exact ih last
theorem kp_ok (m : Int) : ∀ x y (j last : Int), last < j → 0 ≤ j → j + y.length ≤ m → okK m (kp x y j) last = true
  | [], y, j, last, h1, h2, h3 => by rw [kp_nil]; rfl
  | a :: x, [], j, last, h1, h2, h3 => by rw [kp_nil_r]; exact okK_neg m _ last
  | a :: x, b :: y, j, last, h1, h2, h3 => by
    simp only [List.length_cons] at h3
    rw [kp_cons]
    by_cases h : a = b
    · rw [if_pos h, okK, if_neg (by omega), if_neg (by omega), if_neg (by omega)]
      exact kp_ok m x y (j + 1) j (by omega) (by omega) (by omega)
    · rw [if_neg h]
      by_cases hg : L (a :: x) y ≤ L x (b :: y)
      · rw [if_pos hg, okK, if_pos rfl]
        exact kp_ok m x (b :: y) j last h1 h2 (by simp only [List.length_cons]; omega)
      · rw [if_neg hg]
        exact kp_ok m (a :: x) y (j + 1) last (by omega) (by omega) (by omega)
termination_by x y => x.length + y.length
theorem make_kp (x y : List Int) : make (kp x y 0) y.length = (mk y.length (kp x y 0) 0 0 0, 0) := by
  unfold make
  rw [if_neg (by omega), if_pos (kp_ok _ x y 0 (-1) (by omega) (by omega) (by omega))]
theorem mk_empty (m : Int) : ∀ (ks : List Int) (i b : Int), mk m ks i i b = [] → okK m ks (b - 1) = true → 0 ≤ b → ks = upto b ks.length ∧ m ≤ b + ks.length
  | [], i, b, h, _, _ => by
    rw [mk] at h
    by_cases hc : i > i ∨ m > b
    · rw [if_pos hc] at h; cases h
    · exact ⟨rfl, by simp only [List.length_nil]; omega⟩
  | k :: ks, i, b, h, hok, hb => by
    have pos : ∀ (ks : List Int) (i a b : Int), i > a → mk m ks i a b ≠ [] := by
      intro ks
      induction ks with
      | nil => intro i a b h; rw [mk, if_pos (.inl h)]; simp
      | cons k ks ih =>
        intro i a b h
        rw [mk]
        by_cases h1 : k = -1
        · rw [if_pos h1]; exact ih _ _ _ (by omega)
        · rw [if_neg h1, if_pos (.inl h)]; simp
    rw [mk] at h
    rw [okK] at hok
    by_cases h1 : k = -1
    · rw [if_pos h1] at h
      exact absurd h (pos ks (i + 1) i b (by omega))
    rw [if_neg h1] at h hok
    by_cases h2 : i > i ∨ k > b
    · rw [if_pos h2] at h; simp at h
    rw [if_neg h2, List.nil_append] at h
    by_cases h3 : k ≤ b - 1
    · rw [if_pos h3] at hok; cases hok
    rw [if_neg h3] at hok
    by_cases h4 : k ≥ m
    · rw [if_pos h4] at hok; cases hok
    rw [if_neg h4] at hok
    have e : k = b := by omega
    subst e
    have ih := mk_empty m ks (i + 1) (k + 1) h (by rw [show k + 1 - 1 = k by omega]; exact hok) (by omega)
    refine ⟨?_, by simp only [List.length_cons]; omega⟩
    rw [List.length_cons, upto, ← ih.1]
theorem mk_upto (m : Int) : ∀ (n : Nat) (i b : Int), 0 ≤ b → m = b + n → mk m (upto b n) i i b = []
  | 0, i, b, hb, h => by rw [upto, mk, if_neg (by omega)]
  | n + 1, i, b, hb, h => by
    rw [upto, mk, if_neg (by omega), if_neg (by omega), List.nil_append]
    exact mk_upto m n (i + 1) (b + 1) (by omega) (by omega)
/-! SameInts -/
theorem same_at (x y : List Int) (he : x.length = y.length) (hl : x.length ≤ 2000000000) : ∀ d i, x.length - i = d → i ≤ x.length → Ev (fun k => redlineref04_SameInts.l0 k x y (i : Int)) (decide (x.drop i = y.drop i)) := by
  intro d
  induction d with
  | zero =>
    intro i hd hi
    have h1 : ¬ (i : Int) < (x.length : Int) := by omega
    have e : (decide (x.drop i = y.drop i)) = true := by
      rw [List.drop_eq_nil_of_le (show x.length ≤ i by omega), List.drop_eq_nil_of_le (show y.length ≤ i by omega)]; simp
    rw [e]
    apply Ev_unfold
    simp only [redlineref04_SameInts.l0, if_neg h1]
    exact Ev.now _
  | succ d ih =>
    intro i hd hi
    have g1 : (i : Int) < (x.length : Int) := by omega
    have g2 : (0 : Int) ≤ (i : Int) := by omega
    have g3 : (i : Int) < (y.length : Int) := by omega
    have e1 := drop_cons x i (by omega)
    have e2 := drop_cons y i (by omega)
    apply Ev_unfold
    simp only [redlineref04_SameInts.l0, if_pos g1, if_pos g2, if_pos g3, rd_nat, wadd i (by omega)]
    by_cases hq : x.getD i 0 = y.getD i 0
    · simp only [if_pos hq]
      have := ih (i + 1) (by omega) (by omega)
      rw [e1, e2, hq]
      simpa using this
    · simp only [if_neg hq]
      have e : decide (x.drop i = y.drop i) = false := by rw [e1, e2]; simp; intro h; exact absurd h hq
      rw [e]
      exact Ev.now _
theorem same_dec (x y : List Int) (hl : x.length ≤ 2000000000) : Ev (fun k => redlineref04_SameInts.f k x y) (decide (x = y)) := by
  unfold redlineref04_SameInts.f
  by_cases h : x.length = y.length
  · simp only [if_pos (show (x.length : Int) = (y.length : Int) by omega)]
    have := same_at x y h hl _ 0 rfl (by omega)
    simpa using this
  · simp only [if_neg (show ¬ (x.length : Int) = (y.length : Int) by omega)]
    rw [show decide (x = y) = false by rw [decide_eq_false_iff_not]; intro e; exact h (by rw [e])]
    exact Ev.now _
end Go.Proofs.Ytonbplflmdpikaa.Q
