/- MinimalWhole: all of a text is kept just if it can be had from the other one by leaving out lines; nothing is changed just for the same texts. No condition beyond the statement's own. -/
import Derived.Test.YtdcldoembdifpaaQf
import Derived.Test.YtdcldoembdifpaaQg
import Derived.Test.YtdcldoembdifpaaXx14
namespace Go.Proofs.Ytdcldoembdifpaa.Pure
set_option linter.unusedVariables false
set_option linter.unusedSimpArgs false
open Go.RowKit Go.Proofs.Ytdcldoembdifpaa.X Go.Proofs.Ytdcldoembdifpaa.Q Go.Proofs.YtdcldoembdifpaaW.PrintWords Go.Proofs.YtdcldoembdifpaaW.PrintLast Go.Proofs.YtdcldoembdifpaaW.PrintMore

/-- how far x comes in y, taking each member at the first place -/
def emb : List Int → List Int → Nat
  | [], _ => 0
  | _ :: _, [] => 0
  | a :: x, b :: y => if a = b then emb x y + 1 else emb (a :: x) y
theorem emb_le : ∀ x y, emb x y ≤ x.length
  | [], _ => by simp [emb]
  | _ :: _, [] => by simp [emb]
  | a :: x, b :: y => by
    have h1 := emb_le x y
    have h2 := emb_le (a :: x) y
    simp only [List.length_cons] at *
    rw [emb]
    split <;> omega
theorem emb_full : ∀ x y, emb x y = x.length ↔ x.Sublist y
  | [], y => by simp [emb]
  | a :: x, [] => by simp [emb]
  | a :: x, b :: y => by
    rw [emb]
    by_cases h : a = b
    · subst h
      rw [if_pos rfl, List.length_cons]
      have := emb_full x y
      constructor
      · intro h; exact (this.mp (by omega)).cons_cons a
      · intro h
        have := this.mpr (sub_tail (z := a :: x) h)
        omega
    · rw [if_neg h, emb_full (a :: x) y]
      constructor
      · intro h; exact h.cons b
      · intro h2
        cases h2 with
        | cons _ h2 => exact h2
        | cons_cons _ h2 => exact absurd rfl h

theorem whole_end (x y : List Int) (hx : x.length ≤ 600) (hy : y.length ≤ 600) (j i : Nat) (h : (x.length = j) ↔ x.Sublist y) : Ev (fun k => redlinelaw06_MinimalWhole.j2 k x y (j : Int) (i : Int) false) true := by
  have l1 := L_le_l x y
  have e1 : (((L x y : Nat) : Int) == (x.length : Int)) = ((j : Int) == (x.length : Int)) := by
    rw [Bool.eq_iff_iff, beq_iff_eq, beq_iff_eq]
    have := L_full x y
    constructor
    · intro h1; have := h.mpr (this.mp (by omega)); omega
    · intro h1; have := this.mpr (h.mp (by omega)); omega
  have e2 : (((mk y.length (kp x y 0) 0 0 0).length : Int) == 0) = decide (x = y) := by
    rw [Bool.eq_iff_iff, beq_iff_eq, decide_eq_true_iff, ← mk_kp_empty]
    constructor
    · intro h1; exact List.eq_nil_of_length_eq_zero (by omega)
    · intro h1; rw [h1]; rfl
  apply Ev_unfold
  simp only [redlinelaw06_MinimalWhole.j2, Bool.false_eq_true, if_false]
  refine Ev.bind (length_prog x y (by omega) (by omega)) ?_
  have d := diff_prog x y (by omega) (by omega)
  rw [make_kp] at d
  refine Ev.bind d ?_
  simp only [if_true, e1, beq_self_eq_true]
  refine Ev.bind (same_dec x y (by omega)) ?_
  simp only [e2, beq_self_eq_true]
  exact Ev.now _
theorem whole_at (x y : List Int) (hx : x.length ≤ 600) (hy : y.length ≤ 600) : ∀ (d j i : Nat), y.length - i = d → i ≤ y.length → j ≤ x.length → ((x.length = j + emb (x.drop j) (y.drop i)) ↔ x.Sublist y) → Ev (fun k => redlinelaw06_MinimalWhole.l0 k x y (j : Int) (i : Int)) true := by
  intro d
  induction d with
  | zero =>
    intro j i hd hi hj h
    have e : emb (x.drop j) (y.drop i) = 0 := by
      rw [List.drop_eq_nil_of_le (show y.length ≤ i by omega)]
      cases x.drop j <;> rfl
    rw [e] at h
    have h1 : ¬ (i : Int) < (y.length : Int) := by omega
    apply Ev_unfold
    simp only [redlinelaw06_MinimalWhole.l0, if_neg h1]
    exact whole_end x y hx hy j i h
  | succ d ih =>
    intro j i hd hi hj h
    have h1 : (i : Int) < (y.length : Int) := by omega
    apply Ev_unfold
    simp only [redlinelaw06_MinimalWhole.l0, if_pos h1]
    by_cases hj2 : j < x.length
    · have g1 : (j : Int) < (x.length : Int) := by omega
      have g2 : (0 : Int) ≤ (j : Int) := by omega
      have g3 : (0 : Int) ≤ (i : Int) := by omega
      rw [drop_cons x j hj2, drop_cons y i (by omega), emb] at h
      apply Ev_unfold
      simp only [redlinelaw06_MinimalWhole.j2, decide_eq_true g1, if_true, if_pos g1, if_pos g2, if_pos g3, if_pos h1, rd_nat, wadd j (by omega), wadd i (by omega)]
      by_cases hq : x.getD j 0 = y.getD i 0
      · rw [if_pos hq] at h
        simp only [if_pos hq]
        exact ih (j + 1) (i + 1) (by omega) (by omega) (by omega) (by rw [← h]; constructor <;> intro h <;> omega)
      · rw [if_neg hq, ← drop_cons x j hj2] at h
        simp only [if_neg hq]
        exact ih j (i + 1) (by omega) (by omega) (by omega) h
    · have g1 : decide ((j : Int) < (x.length : Int)) = false := decide_eq_false (by omega)
      rw [g1]
      refine whole_end x y hx hy j i ?_
      have e : emb (x.drop j) (y.drop i) = 0 := by rw [List.drop_eq_nil_of_le (show x.length ≤ j by omega)]; simp [emb]
      rw [e] at h
      exact h

theorem MinimalWhole : redlinelaw06_MinimalWhole.Pure := by
  intro x y hx hx8 _ hy hy8 _
  suffices H : Ev (fun k => redlinelaw06_MinimalWhole.f k x y) true from H.rounds
  unfold redlinelaw06_MinimalWhole.f
  refine Ev.bind works06 ?_
  simp only [if_true]
  by_cases h1 : (x.length : Int) > 600
  · simp only [if_pos h1]
    apply Ev_unfold
    simp only [redlinelaw06_MinimalWhole.j0, if_true]
    exact Ev.now _
  simp only [if_neg h1]
  apply Ev_unfold
  by_cases h2 : (y.length : Int) > 600
  · simp only [redlinelaw06_MinimalWhole.j0, decide_eq_true h2, if_true]
    exact Ev.now _
  simp only [redlinelaw06_MinimalWhole.j0, decide_eq_false h2, Bool.false_eq_true, if_false]
  have he := emb_full x y
  have := whole_at x y (by omega) (by omega) _ 0 0 rfl (by omega) (by omega) (by rw [List.drop_zero, List.drop_zero, ← he]; constructor <;> intro h <;> omega)
  exact this
end Go.Proofs.Ytdcldoembdifpaa.Pure
