/- The reference's Make: the same as the program's. -/
import Derived.Test.YtonbplflmdpikaaZDQb
import Derived.Test.YtonbplflmdpikaaZDXx37
namespace Go.Proofs.Ytonbplflmdpikaa.Q
set_option linter.unusedVariables false
set_option linter.unusedSimpArgs false
open Go.RowKit Go.Proofs.Ytonbplflmdpikaa.X Go.Proofs.YtonbplflmdpikaaW.PrintWords Go.Proofs.YtonbplflmdpikaaW.PrintLast Go.Proofs.YtonbplflmdpikaaW.PrintMore
/-! the reference -/
theorem ref_check (keep : List Int) (m : Int) (R : List Ch × Int) (hl : keep.length ≤ 1000000000) (H : ¬ m < 0 → okK m keep (-1) = true → Ev (fun k => redlineref05_Make.l1 k keep m [] 0 0 0) R) (H2 : (m < 0 ∨ okK m keep (-1) = false) → R = ([], 50)) :
    ∀ (ks : List Int) (i : Nat) (last : Int), keep.drop i = ks → i + ks.length = keep.length → okK m ks last = okK m keep (-1) → Ev (fun k => redlineref05_Make.l0 k keep m last (i : Int)) R
  | [], i, last, hd, hi, hok => by
    simp only [List.length_nil] at hi
    apply Ev_unfold
    simp only [redlineref05_Make.l0, if_neg (show ¬ (i : Int) < (keep.length : Int) by omega)]
    by_cases h : m < 0
    · simp only [if_pos h]
      rw [H2 (.inl h)]
      exact Ev.now _
    · simp only [if_neg h]
      exact H h (by rw [← hok]; rfl)
  | k :: ks, i, last, hd, hi, hok => by
    simp only [List.length_cons] at hi
    have hk : rd keep (i : Int) = k := by
      rw [rd_nat]
      have := drop_cons keep i (by omega)
      rw [hd] at this
      injection this with h1 h2
      exact h1.symm
    have hd2 : keep.drop (i + 1) = ks := by rw [← List.drop_drop, hd]; rfl
    have w0 : wrap64 ((i : Int) + 1) = ((i + 1 : Nat) : Int) := by rw [w64 _ (by omega)]; omega
    apply Ev_unfold
    simp only [redlineref05_Make.l0, if_pos (show (i : Int) < (keep.length : Int) by omega), if_pos (show (0 : Int) ≤ (i : Int) by omega), hk, w0]
    rw [okK] at hok
    by_cases h1 : k = -1
    · simp only [if_pos h1]
      rw [if_pos h1] at hok
      exact ref_check keep m R hl H H2 ks (i + 1) last hd2 (by omega) hok
    simp only [if_neg h1]
    rw [if_neg h1] at hok
    by_cases h2 : k ≤ last
    · simp only [if_pos h2]
      rw [if_pos h2] at hok
      rw [H2 (.inr hok.symm)]
      exact Ev.now _
    simp only [if_neg h2]
    rw [if_neg h2] at hok
    by_cases h3 : k ≥ m
    · simp only [if_pos h3]
      rw [if_pos h3] at hok
      rw [H2 (.inr hok.symm)]
      exact Ev.now _
    simp only [if_neg h3]
    rw [if_neg h3] at hok
    exact ref_check keep m R hl H H2 ks (i + 1) k hd2 (by omega) hok
theorem ref_build (keep : List Int) (m : Int) (hm : 0 ≤ m ∧ m ≤ 9223372036854775807) (hl : keep.length ≤ 1000000000) : ∀ (ks : List Int) (i : Nat) (a b : Int) (l : List Ch), keep.drop i = ks → i + ks.length = keep.length → 0 ≤ a → a ≤ i → 0 ≤ b → b ≤ m → okK m ks (b - 1) = true → l.length ≤ i →
    Ev (fun k => redlineref05_Make.l1 k keep m l a b (i : Int)) (l ++ mk m ks i a b, 0)
  | [], i, a, b, l, hd, hi, ha, hai, hb, hbm, hok, hll => by
    simp only [List.length_nil] at hi
    have e : i = keep.length := by omega
    have w0 : wrap64 ((i : Int) + 1) = (i : Int) + 1 := w64 _ (by omega)
    have w1 : wrap64 ((i : Int) - a) = (i : Int) - a := w64 _ (by omega)
    have w2 : wrap64 (m - b) = m - b := w64 _ (by omega)
    have fin : ∀ (l' : List Ch) (a' b' : Int), Ev (fun k => redlineref05_Make.l1 k keep m l' a' b' ((i : Int) + 1)) (l', 0) := by
      intro l' a' b'
      apply Ev_unfold
      simp only [redlineref05_Make.l1, if_neg (show ¬ (i : Int) + 1 ≤ (keep.length : Int) by omega)]
      exact Ev.now _
    apply Ev_unfold
    simp only [redlineref05_Make.l1, if_pos (show (i : Int) ≤ (keep.length : Int) by omega), if_neg (show ¬ (i : Int) < (keep.length : Int) by omega), w0, w1, w2, if_pos (show l.length < 4398046511104 by omega), mk]
    by_cases h1 : (i : Int) > a
    · simp only [if_pos h1, if_pos (Or.inl h1 : (i : Int) > a ∨ m > b)]
      exact fin _ _ _
    simp only [if_neg h1]
    by_cases h2 : m > b
    · simp only [if_pos h2, if_pos (Or.inr h2 : (i : Int) > a ∨ m > b)]
      exact fin _ _ _
    simp only [if_neg h2, if_neg (show ¬ ((i : Int) > a ∨ m > b) by omega), List.append_nil]
    exact fin _ _ _
  | k :: ks, i, a, b, l, hd, hi, ha, hai, hb, hbm, hok, hll => by
    simp only [List.length_cons] at hi
    have hk : rd keep (i : Int) = k := by
      rw [rd_nat]
      have := drop_cons keep i (by omega)
      rw [hd] at this
      injection this with h1 h2
      exact h1.symm
    have hd2 : keep.drop (i + 1) = ks := by rw [← List.drop_drop, hd]; rfl
    have w0 : wrap64 ((i : Int) + 1) = ((i + 1 : Nat) : Int) := by rw [w64 _ (by omega)]; omega
    have e1 : ((i + 1 : Nat) : Int) = (i : Int) + 1 := by omega
    apply Ev_unfold
    simp only [redlineref05_Make.l1, if_pos (show (i : Int) ≤ (keep.length : Int) by omega), if_pos (show (i : Int) < (keep.length : Int) by omega), if_pos (show (0 : Int) ≤ (i : Int) by omega), hk, w0, mk]
    rw [okK] at hok
    by_cases h1 : k = -1
    · simp only [if_pos h1]
      rw [if_pos h1] at hok
      have := ref_build keep m hm hl ks (i + 1) a b l hd2 (by omega) ha (by omega) hb hbm hok (by omega)
      rw [e1] at this ⊢
      exact this
    rw [if_neg h1] at hok
    by_cases h2 : k ≤ b - 1
    · rw [if_pos h2] at hok; cases hok
    rw [if_neg h2] at hok
    by_cases h3 : k ≥ m
    · rw [if_pos h3] at hok; cases hok
    rw [if_neg h3] at hok
    have w1 : wrap64 ((i : Int) - a) = (i : Int) - a := w64 _ (by omega)
    have w2 : wrap64 (k - b) = k - b := w64 _ (by omega)
    have w3 : wrap64 (k + 1) = k + 1 := w64 _ (by omega)
    simp only [if_neg h1, if_pos (show l.length < 4398046511104 by omega), w1, w2, w3]
    have step := fun (l' : List Ch) (hl' : l'.length ≤ i + 1) => ref_build keep m hm hl ks (i + 1) ((i + 1 : Nat) : Int) (k + 1) l' hd2 (by omega) (by omega) (by omega) (by omega) (by omega) (by rw [show k + 1 - 1 = k by omega]; exact hok) hl'
    by_cases h4 : (i : Int) > a
    · simp only [if_pos h4, if_pos (Or.inl h4 : (i : Int) > a ∨ k > b)]
      have := step (l ++ [⟨a, (i : Int) - a, b, k - b⟩]) (by simp; omega)
      rw [e1] at this ⊢
      rw [← List.append_assoc]
      exact this
    simp only [if_neg h4]
    by_cases h5 : k > b
    · simp only [if_pos h5, if_pos (Or.inr h5 : (i : Int) > a ∨ k > b)]
      have := step (l ++ [⟨a, (i : Int) - a, b, k - b⟩]) (by simp; omega)
      rw [e1] at this ⊢
      rw [← List.append_assoc]
      exact this
    simp only [if_neg h5, if_neg (show ¬ ((i : Int) > a ∨ k > b) by omega), List.nil_append]
    have := step l (by omega)
    rw [e1] at this ⊢
    exact this
theorem make_ref (keep : List Int) (m : Int) (hl : keep.length ≤ 1000000000) (hm : m ≤ 9223372036854775807) : Ev (fun k => redlineref05_Make.f k keep m) (make keep m) := by
  unfold redlineref05_Make.f
  refine ref_check keep m (make keep m) hl ?_ ?_ keep 0 (-1) rfl (by omega) rfl
  · intro h1 h2
    unfold make
    rw [if_neg h1, if_pos h2]
    have := ref_build keep m ⟨by omega, hm⟩ hl keep 0 0 0 [] rfl (by omega) (by omega) (by omega) (by omega) (by omega) h2 (by simp)
    exact this
  · intro h
    unfold make
    rcases h with h | h
    · rw [if_pos h]
    · by_cases h1 : m < 0
      · rw [if_pos h1]
      · rw [if_neg h1, h]; rfl
end Go.Proofs.Ytonbplflmdpikaa.Q
