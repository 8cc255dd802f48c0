/- MinimalMost: the least script keeps only pairs of the same class, as many as Length says, and no honest script keeps more. No condition beyond the statement's own. -/
import Derived.Test.YtdcldoembdifpaaQf
import Derived.Test.YtdcldoembdifpaaQg
import Derived.Test.YtdcldoembdifpaaQi
import Derived.Test.YtdcldoembdifpaaXx37
namespace Go.Proofs.Ytdcldoembdifpaa.Pure
set_option linter.unusedVariables false
set_option linter.unusedSimpArgs false
open Go.RowKit Go.Proofs.Ytdcldoembdifpaa.X Go.Proofs.Ytdcldoembdifpaa.Q Go.Proofs.YtdcldoembdifpaaW.PrintWords Go.Proofs.YtdcldoembdifpaaW.PrintLast Go.Proofs.YtdcldoembdifpaaW.PrintMore

theorem drop_sub (x : List Int) {i j : Nat} (h : i ≤ j) : (x.drop j).Sublist (x.drop i) := by
  obtain ⟨d, rfl⟩ : ∃ d, j = i + d := ⟨j - i, by omega⟩
  rw [← List.drop_drop]
  exact List.drop_sublist _ _
theorem most_in (x y p : List Int) (hx : x.length ≤ 600) (hy : y.length ≤ 600) (i : Nat) (hi : i < x.length)
    (IH : ∀ o n : Nat, n ≤ y.length → o + L (x.drop (i + 1)) (y.drop n) ≤ L x y → Ev (fun k => redlinelaw06_MinimalMost.l0 k x y p (L x y : Int) (o : Int) (n : Int) ((i + 1 : Nat) : Int)) true)
    (o n : Nat) (hn : n ≤ y.length) (ho : o + L (x.drop i) (y.drop n) ≤ L x y) (s : Int) :
    ∀ (d j : Nat), y.length - j = d → n ≤ j → j ≤ y.length → Ev (fun k => redlinelaw06_MinimalMost.l1 k x y p (L x y : Int) (o : Int) (n : Int) (i : Int) s (j : Int)) true := by
  have hL := L_le_l x y
  have stop : ∀ j : Nat, Ev (fun k => redlinelaw06_MinimalMost.j5 k x y p (L x y : Int) (o : Int) (n : Int) (i : Int) s (j : Int) false) true := by
    intro j
    apply Ev_unfold
    simp only [redlinelaw06_MinimalMost.j5, Bool.false_eq_true, if_false, wadd i (by omega)]
    refine IH o n hn (Nat.le_trans (Nat.add_le_add_left (L_mono (drop_sub x (by omega)) (List.Sublist.refl _)) o) ho)
  intro d
  induction d with
  | zero =>
    intro j hd hj hj2
    have q : ¬ (j : Int) < (y.length : Int) := by omega
    apply Ev_unfold
    simp only [redlinelaw06_MinimalMost.l1, if_neg q]
    exact stop j
  | succ d ih =>
    intro j hd hj hj2
    have q : (j : Int) < (y.length : Int) := by omega
    apply Ev_unfold
    simp only [redlinelaw06_MinimalMost.l1, if_pos q]
    generalize decide ((j : Int) ≤ wrap64 ((n : Int) + wrap64 (s * 3))) = bb
    cases bb
    · exact stop j
    apply Ev_unfold
    have q2 : (0 : Int) ≤ (i : Int) := by omega
    have q3 : (i : Int) < (x.length : Int) := by omega
    have q4 : (0 : Int) ≤ (j : Int) := by omega
    simp only [redlinelaw06_MinimalMost.j5, if_true, if_pos q, if_pos q2, if_pos q3, if_pos q4, rd_nat, wadd i (by omega), wadd j (by omega), wadd o (by omega)]
    by_cases he : x.getD i 0 = y.getD j 0
    · simp only [if_pos he]
      refine IH (o + 1) (j + 1) (by omega) ?_
      have h1 := L_at x y i j hi (by omega)
      rw [if_pos he] at h1
      have h2 := L_mono (List.Sublist.refl (x.drop i)) (drop_sub y hj)
      omega
    · simp only [if_neg he]
      exact ih (j + 1) (by omega) (by omega) (by omega)
theorem most_out (x y p : List Int) (hx : x.length ≤ 600) (hy : y.length ≤ 600) : ∀ (d i o n : Nat), x.length - i = d → i ≤ x.length → n ≤ y.length → o + L (x.drop i) (y.drop n) ≤ L x y → Ev (fun k => redlinelaw06_MinimalMost.l0 k x y p (L x y : Int) (o : Int) (n : Int) (i : Int)) true := by
  intro d
  induction d with
  | zero =>
    intro i o n hd hi hn ho
    have q : ¬ (i : Int) < (x.length : Int) := by omega
    have q2 : decide ((o : Int) ≤ (L x y : Int)) = true := decide_eq_true (by omega)
    apply Ev_unfold
    simp only [redlinelaw06_MinimalMost.l0, if_neg q, q2]
    exact Ev.now _
  | succ d ih =>
    intro i o n hd hi hn ho
    have q : (i : Int) < (x.length : Int) := by omega
    have go : ∀ s : Int, Ev (fun k => redlinelaw06_MinimalMost.j3 k x y p (L x y : Int) (o : Int) (n : Int) (i : Int) s) true := by
      intro s
      apply Ev_unfold
      simp only [redlinelaw06_MinimalMost.j3]
      exact most_in x y p hx hy i (by omega) (fun o' n' h1 h2 => ih (i + 1) o' n' (by omega) (by omega) h1 h2) o n hn ho s _ n rfl (Nat.le_refl _) hn
    apply Ev_unfold
    simp only [redlinelaw06_MinimalMost.l0, if_pos q]
    by_cases hp : (p.length : Int) > 0
    · have q1 : ¬ (p.length : Int) = 0 := by omega
      have q2 : 0 ≤ Int.tmod (i : Int) (p.length : Int) := Int.tmod_nonneg _ (by omega)
      have q3 : Int.tmod (i : Int) (p.length : Int) < (p.length : Int) := Int.tmod_lt_of_pos _ hp
      simp only [if_pos hp, if_neg q1, if_pos q2, if_pos q3]
      exact go _
    · simp only [if_neg hp]
      exact go _

theorem MinimalMost : redlinelaw06_MinimalMost.Pure := by
  intro x y p hx hx8 _ hy hy8 _ hp _ _
  suffices H : Ev (fun k => redlinelaw06_MinimalMost.f k x y p) true from H.rounds
  unfold redlinelaw06_MinimalMost.f
  refine Ev.bind works06 ?_
  simp only [if_true]
  by_cases h1 : (x.length : Int) > 600
  · simp only [if_pos h1]
    apply Ev_unfold
    simp only [redlinelaw06_MinimalMost.j0, if_true]
    exact Ev.now _
  simp only [if_neg h1]
  apply Ev_unfold
  by_cases h2 : (y.length : Int) > 600
  · simp only [redlinelaw06_MinimalMost.j0, decide_eq_true h2, if_true]
    exact Ev.now _
  simp only [redlinelaw06_MinimalMost.j0, decide_eq_false h2, Bool.false_eq_true, if_false]
  have d := diff_prog x y (by omega) (by omega)
  rw [make_kp] at d
  refine Ev.bind d ?_
  refine Ev.bind (length_prog x y (by omega) (by omega)) ?_
  have hk := keep_mk (kp x y 0) y.length (by rw [kp_len]; omega) (by omega) (kp_ok _ x y 0 (-1) (by omega) (by omega) (by omega))
  rw [kp_len] at hk
  obtain ⟨hh, hn⟩ := kp_hon y x y 0 (by rw [List.drop_zero])
  have ho := honest_of x y (kp x y 0) _ (kp_len x y 0) (by rw [kp_len]; omega) hh hk
  rw [show ((0 : Nat) : Int) = 0 from rfl] at hn
  rw [hn] at ho
  refine Ev.bind ho ?_
  have e : ((L x y : Int) != (L x y : Int)) = false := by simp
  simp only [if_true, e]
  apply Ev_unfold
  simp only [redlinelaw06_MinimalMost.j1, Bool.false_eq_true, if_false]
  exact most_out x y p (by omega) (by omega) _ 0 0 0 rfl (by omega) (by omega) (by rw [List.drop_zero, List.drop_zero]; omega)
end Go.Proofs.Ytdcldoembdifpaa.Pure
