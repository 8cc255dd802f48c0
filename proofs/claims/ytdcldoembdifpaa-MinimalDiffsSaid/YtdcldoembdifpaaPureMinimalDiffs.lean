/- MinimalDiffs: of any two texts the program's least edit script and its length are the reference's; too long texts are refused by both calls; the copies stay as they are. No condition beyond the statement's own. -/
import Derived.Test.YtdcldoembdifpaaQc
import Derived.Test.YtdcldoembdifpaaQd
import Derived.Test.YtdcldoembdifpaaXx12
namespace Go.Proofs.Ytdcldoembdifpaa.Pure
set_option linter.unusedVariables false
set_option linter.unusedSimpArgs false
open Go.RowKit Go.Proofs.Ytdcldoembdifpaa.X Go.Proofs.Ytdcldoembdifpaa.Q Go.Proofs.YtdcldoembdifpaaW.PrintWords Go.Proofs.YtdcldoembdifpaaW.PrintLast Go.Proofs.YtdcldoembdifpaaW.PrintMore

theorem MinimalDiffs : redlinelaw06_MinimalDiffs.Pure := by
  intro x y hx hx8 _ hy hy8 _
  suffices H : Ev (fun k => redlinelaw06_MinimalDiffs.f k x y) true from H.rounds
  unfold redlinelaw06_MinimalDiffs.f
  by_cases hs : x.length ≤ 200 ∧ y.length ≤ 200
  · have e : redlinelaw06_small.f x y = some true := by
      unfold redlinelaw06_small.f
      rw [if_pos (by omega), decide_eq_true (by omega)]
    have hx4 : x.length ≤ 4096 := by omega
    have hy4 : y.length ≤ 4096 := by omega
    have g1 : 0 + x.length < 17592186044416 := by omega
    have g2 : 0 + y.length < 17592186044416 := by omega
    simp only [e, bsome, if_true, List.nil_append, List.length_nil, if_pos g1, if_pos g2]
    refine Ev.bind (diff_prog x y hx4 hy4) ?_
    refine Ev.bind (diff_ref x y hx4 hy4) ?_
    refine Ev.bind (length_prog x y hx4 hy4) ?_
    refine Ev.bind (length_ref x y hx4 hy4) ?_
    simp only [if_true]
    have hm : (make (kp x y 0) y.length).1.length ≤ 2000000000 := by
      have := mk_len y.length (kp x y 0) 0 0 0
      rw [kp_len] at this
      unfold make
      split
      · simp
      · split
        · show (mk _ _ _ _ _).length ≤ _; omega
        · simp
    refine Ev.bind (same_ch _ hm) ?_
    simp only [if_true]
    refine Ev.bind (same_ints x (by omega)) ?_
    simp only [if_true]
    refine Ev.bind (same_ints y (by omega)) ?_
    exact Ev.now _
  · have e : redlinelaw06_small.f x y = some false := by
      unfold redlinelaw06_small.f
      by_cases h1 : (x.length : Int) ≤ 200
      · rw [if_pos h1, decide_eq_false (by omega)]
      · rw [if_neg h1]
    simp only [e, bsome, Bool.false_eq_true, if_false]
    by_cases hl : x.length ≤ 4096 ∧ y.length ≤ 4096
    · refine Ev.bind (length_prog x y hl.1 hl.2) ?_
      refine Ev.bind (diff_prog x y hl.1 hl.2) ?_
      have h1 : ¬ (x.length : Int) > 4096 := by omega
      have h2 : ¬ (y.length : Int) > 4096 := by omega
      simp only [if_neg h1, if_neg h2]
      exact Ev.now _
    · refine Ev.bind (length_long x y hl) ?_
      refine Ev.bind (diff_long x y hl) ?_
      by_cases h1 : (x.length : Int) > 4096
      · simp only [if_pos h1, if_true]
        exact Ev.now _
      · have h2 : (y.length : Int) > 4096 := by omega
        simp only [if_neg h1, if_pos h2, if_true]
        exact Ev.now _
end Go.Proofs.Ytdcldoembdifpaa.Pure
