/- SpeedyDiffs: of any two texts, with any bound, the program's edit script is the reference's; too long texts are refused; the copies stay as they are. No condition beyond the statement's own. -/
import Derived.Test.YtdcldoembdifpaaZQl
import Derived.Test.YtdcldoembdifpaaZXx47
namespace Go.Proofs.Ytdcldoembdifpaa.Pure
set_option linter.unusedVariables false
set_option linter.unusedSimpArgs false
open Go.RowKit Go.Proofs.Ytdcldoembdifpaa.X Go.Proofs.Ytdcldoembdifpaa.Q Go.Proofs.YtdcldoembdifpaaW.PrintWords Go.Proofs.YtdcldoembdifpaaW.PrintLast Go.Proofs.YtdcldoembdifpaaW.PrintMore
theorem SpeedyDiffs : redlinelaw09_SpeedyDiffs.Pure := by
  intro x y bound hx hx8 _ hy hy8 _ _
  suffices H : Ev (fun k => redlinelaw09_SpeedyDiffs.f k x y bound) true from H.rounds
  have hlong : ¬ (x.length ≤ 4096 ∧ y.length ≤ 4096) → Ev (fun k => redlinelaw09_SpeedyDiffs.j0 k x y bound true) true := by
    intro h
    apply Ev_unfold
    simp only [redlinelaw09_SpeedyDiffs.j0, if_true]
    refine Ev.bind (speedy_long x y bound h) ?_
    simp only [if_true, List.length_nil, Int.natCast_zero, beq_self_eq_true]
    exact Ev.now _
  unfold redlinelaw09_SpeedyDiffs.f
  by_cases h1 : (x.length : Int) > 4096
  · simp only [if_pos h1]; exact hlong (by omega)
  simp only [if_neg h1]
  by_cases h2 : (y.length : Int) > 4096
  · simp only [decide_eq_true h2]; exact hlong (by omega)
  simp only [decide_eq_false h2]
  apply Ev_unfold
  simp only [redlinelaw09_SpeedyDiffs.j0, Bool.false_eq_true, if_false]
  have hj : ∀ b : Bool, (b = false → x.length ≤ 200 ∧ y.length ≤ 200) → Ev (fun k => redlinelaw09_SpeedyDiffs.j1 k x y bound b) true := by
    intro b hb
    apply Ev_unfold
    cases b with
    | true => simp only [redlinelaw09_SpeedyDiffs.j1, if_true]; exact Ev.now _
    | false =>
      obtain ⟨hx2, hy2⟩ := hb rfl
      have g1 : 0 + x.length < 17592186044416 := by omega
      have g2 : 0 + y.length < 17592186044416 := by omega
      simp only [redlinelaw09_SpeedyDiffs.j1, Bool.false_eq_true, if_false, bsome, List.nil_append, List.length_nil, if_pos g1, if_pos g2]
      refine Ev.bind (speedy_prog x y (by omega) (by omega) bound) ?_
      refine Ev.bind (speedy_ref x y (by omega) (by omega) bound) ?_
      simp only [if_true]
      have hm : (make (KK x y bound) y.length).1.length ≤ 2000000000 := by
        have := mk_len y.length (KK x y bound) 0 0 0
        rw [KK_len] at this
        unfold make
        split
        · simp
        · split
          · show (mk _ _ _ _ _).length ≤ _; omega
          · simp
      refine Ev.bind (same_ch _ hm) ?_
      simp only [if_true]
      refine Ev.bind (same_ints x (by omega)) ?_
      simp only [if_true]
      refine Ev.bind (same_ints y (by omega)) ?_
      exact Ev.now _
  by_cases h3 : (x.length : Int) > 200
  · simp only [if_pos h3]; exact hj true (fun h => by cases h)
  · simp only [if_neg h3]; exact hj _ (fun h => by have := of_decide_eq_false h; omega)
end Go.Proofs.Ytdcldoembdifpaa.Pure
