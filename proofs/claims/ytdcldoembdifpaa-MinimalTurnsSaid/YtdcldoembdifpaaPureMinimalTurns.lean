/- MinimalTurns: how much two texts have in common is the same from all sides; a line put ahead of both adds one. No condition beyond the statement's own. -/
import Derived.Test.YtdcldoembdifpaaQf
import Derived.Test.YtdcldoembdifpaaXx29
namespace Go.Proofs.Ytdcldoembdifpaa.Pure
set_option linter.unusedVariables false
set_option linter.unusedSimpArgs false
open Go.RowKit Go.Proofs.Ytdcldoembdifpaa.X Go.Proofs.Ytdcldoembdifpaa.Q Go.Proofs.YtdcldoembdifpaaW.PrintWords Go.Proofs.YtdcldoembdifpaaW.PrintLast Go.Proofs.YtdcldoembdifpaaW.PrintMore

theorem wdec' (i : Nat) (h : i < 4611686018427387904) : wrap64 ((i : Int) - 1) = (i : Int) - 1 := by
  rw [w64 _ (by omega)]
theorem turned_at (x : List Int) (hx : x.length ≤ 1000000) : ∀ (i : Nat) (done : List Int), i ≤ x.length → done.length + i = x.length → Ev (fun k => redlinelaw06_turned.l0 k x done ((i : Int) - 1)) (done ++ (x.take i).reverse)
  | 0, done, hi, hd => by
    have h1 : ¬ ((0 : Nat) : Int) - 1 ≥ 0 := by omega
    apply Ev_unfold
    simp only [redlinelaw06_turned.l0, if_neg h1, List.take_zero, List.reverse_nil, List.append_nil]
    exact Ev.now _
  | i + 1, done, hi, hd => by
    have e0 : ((i + 1 : Nat) : Int) - 1 = (i : Int) := by omega
    have h1 : (i : Int) ≥ 0 := by omega
    have h2 : (0 : Int) ≤ (i : Int) := by omega
    have h3 : (i : Int) < (x.length : Int) := by omega
    have h4 : done.length < 17592186044416 := by omega
    have ih := turned_at x hx i (done ++ [x.getD i 0]) (by omega) (by simp; omega)
    rw [e0]
    apply Ev_unfold
    simp only [redlinelaw06_turned.l0, if_pos h1, if_pos h2, if_pos h3, if_pos h4, rd_nat, wdec' i (by omega)]
    have e : (x.take (i + 1)).reverse = x.getD i 0 :: (x.take i).reverse := by
      rw [List.take_add_one, List.getElem?_eq_getElem (show i < x.length by omega)]
      simp [List.getD_eq_getElem?_getD, show i < x.length by omega]
    rw [e, show done ++ x.getD i 0 :: (x.take i).reverse = (done ++ [x.getD i 0]) ++ (x.take i).reverse by simp]
    exact ih
theorem turned (x : List Int) (hx : x.length ≤ 1000000) : Ev (fun k => redlinelaw06_turned.f k x) x.reverse := by
  unfold redlinelaw06_turned.f
  have := turned_at x hx x.length [] (Nat.le_refl _) (by simp)
  rw [List.take_length, List.nil_append] at this
  simp only [wdec' x.length (by omega)]
  exact this

theorem MinimalTurns : redlinelaw06_MinimalTurns.Pure := by
  intro x y c hx hx8 _ hy hy8 _ _
  suffices H : Ev (fun k => redlinelaw06_MinimalTurns.f k x y c) true from H.rounds
  unfold redlinelaw06_MinimalTurns.f
  refine Ev.bind works06 ?_
  simp only [if_true]
  by_cases h1 : (x.length : Int) > 300
  · simp only [if_pos h1]
    apply Ev_unfold
    simp only [redlinelaw06_MinimalTurns.j0, if_true]
    exact Ev.now _
  simp only [if_neg h1]
  apply Ev_unfold
  by_cases h2 : (y.length : Int) > 300
  · simp only [redlinelaw06_MinimalTurns.j0, decide_eq_true h2, if_true]
    exact Ev.now _
  have hx3 : x.length ≤ 300 := by omega
  have hy3 : y.length ≤ 300 := by omega
  have g1 : ([c] : List Int).length + x.length < 17592186044416 := by simp; omega
  have g2 : ([c] : List Int).length + y.length < 17592186044416 := by simp; omega
  have l1 := L_le_l x y
  have l2 := L_le_r x y
  simp only [redlinelaw06_MinimalTurns.j0, decide_eq_false h2, Bool.false_eq_true, if_false]
  refine Ev.bind (length_prog x y (by omega) (by omega)) ?_
  refine Ev.bind (length_prog y x (by omega) (by omega)) ?_
  refine Ev.bind (turned x (by omega)) ?_
  refine Ev.bind (turned y (by omega)) ?_
  refine Ev.bind (length_prog x.reverse y.reverse (by rw [List.length_reverse]; omega) (by rw [List.length_reverse]; omega)) ?_
  simp only [bsome, if_pos g1, if_pos g2]
  refine Ev.bind (length_prog ([c] ++ x) ([c] ++ y) (by simp; omega) (by simp; omega)) ?_
  refine Ev.bind (length_prog x x (by omega) (by omega)) ?_
  have e1 : L ([c] ++ x) ([c] ++ y) = L x y + 1 := by rw [List.singleton_append, List.singleton_append, L_cons, if_pos rfl]
  have e2 : decide (((L x y : Nat) : Int) ≤ mn (x.length : Int) (y.length : Int)) = true := decide_eq_true (by rw [mn_nat]; omega)
  simp only [if_true, L_comm y x, L_rev, e1, L_self, wadd (L x y) (by omega), e2]
  exact Ev.now _
end Go.Proofs.Ytdcldoembdifpaa.Pure
