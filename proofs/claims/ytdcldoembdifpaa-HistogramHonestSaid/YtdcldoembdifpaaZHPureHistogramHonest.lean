/- HistogramHonest: of any two texts what the program's histogram.Diff keeps are pairs of the same class, never more than the least script keeps; something is kept just if anything can be; texts that are the same, and only these, have no changes; and the example by which the statement begins holds. No condition beyond the statement's own. -/
import Derived.Test.YtdcldoembdifpaaZHQs
import Derived.Test.YtdcldoembdifpaaZHXx59
namespace Go.Proofs.Ytdcldoembdifpaa.Pure
set_option linter.unusedVariables false
set_option linter.unusedSimpArgs false
open Go.RowKit Go.Proofs.Ytdcldoembdifpaa.X Go.Proofs.Ytdcldoembdifpaa.Q Go.Proofs.YtdcldoembdifpaaW.PrintWords Go.Proofs.YtdcldoembdifpaaW.PrintLast Go.Proofs.YtdcldoembdifpaaW.PrintMore
theorem HistogramHonest : redlinelaw08_HistogramHonest.Pure := by
  intro x y hx hx8 wx hy hy8 wy
  suffices H : Ev (fun k => redlinelaw08_HistogramHonest.f k x y) true from H.rounds
  unfold redlinelaw08_HistogramHonest.f
  refine Ev.bind works08 ?_
  simp only [if_true]
  have hj : ∀ b : Bool, (b = false → x.length ≤ 300 ∧ y.length ≤ 300) → Ev (fun k => redlinelaw08_HistogramHonest.j0 k x y b) true := by
    intro b hb
    apply Ev_unfold
    cases b with
    | true => simp only [redlinelaw08_HistogramHonest.j0, if_true]; exact Ev.now _
    | false =>
      obtain ⟨hx2, hy2⟩ := hb rfl
      simp only [redlinelaw08_HistogramHonest.j0, Bool.false_eq_true, if_false]
      have hr := PK_row x y (by omega) (by omega)
      have hn := PK_none x y (by omega) (by omega)
      have hm := PK_nn x y (by omega) (by omega)
      have hlen := PK_len x y (by omega) (by omega)
      have hok := Go.Proofs.Ytdcldoembdifpaa.Q.Row.ok _ _ _ hr
      have hemp := PK_empty x y (by omega) (by omega)
      have d := diff8_prog x y (by omega) (by omega) wx wy
      rw [show pc x y (x.length + 1) 0 x.length 0 y.length (List.replicate x.length (-1)) = PK x y from rfl] at d
      have e : make (PK x y) y.length = (mk y.length (PK x y) 0 0 0, 0) := by
        unfold make
        rw [if_neg (by omega), if_pos hok]
      rw [e] at d
      refine Ev.bind d ?_
      have hk := keep_mk (PK x y) y.length (by rw [hlen]; omega) (by omega) hok
      rw [hlen] at hk
      refine Ev.bind (honest_of x y (PK x y) _ hlen (by rw [hlen]; omega) (Go.Proofs.Ytdcldoembdifpaa.Q.Row.hon _ _ _ (by omega) hr) hk) ?_
      refine Ev.bind (length_prog x y (by omega) (by omega)) ?_
      have e1 : ((((nn (PK x y) : Nat) : Int) == 0) == (((L x y : Nat) : Int) == 0)) = true := by
        rw [beq_iff_eq]
        rcases Nat.eq_zero_or_pos (nn (PK x y)) with h0 | h0
        · rw [h0, hn h0]
        · have a1 : ((((nn (PK x y) : Nat) : Int)) == 0) = false := beq_eq_false_iff_ne.mpr (by omega)
          have a2 : ((((L x y : Nat) : Int)) == 0) = false := beq_eq_false_iff_ne.mpr (by omega)
          rw [a1, a2]
      simp only [if_true, if_pos (show ((nn (PK x y) : Nat) : Int) ≤ ((L x y : Nat) : Int) by omega), if_pos e1]
      refine Ev.bind (same_dec x y (by omega)) ?_
      have e0 : ((((mk y.length (PK x y) 0 0 0).length : Nat) : Int) == 0) = decide (x = y) := by
        by_cases h : x = y
        · rw [hemp.2 h, decide_eq_true h]; rfl
        · rw [decide_eq_false h]
          have hne : mk y.length (PK x y) 0 0 0 ≠ [] := fun h2 => h (hemp.1 h2)
          have hl : (mk y.length (PK x y) 0 0 0).length ≠ 0 := fun h2 => hne (List.eq_nil_of_length_eq_zero h2)
          exact beq_eq_false_iff_ne.mpr (by omega)
      simp only [e0, beq_self_eq_true]
      exact Ev.now _
  by_cases h3 : (x.length : Int) > 300
  · simp only [if_pos h3]; exact hj true (fun h => by cases h)
  · simp only [if_neg h3]; exact hj _ (fun h => by have := of_decide_eq_false h; omega)
end Go.Proofs.Ytdcldoembdifpaa.Pure
