/- PatienceDiffs: of any two texts the program's edit script is the reference's; too long texts are refused; the copies stay as they are. No condition beyond the statement's own. -/
import Derived.Test.YtonbplflmdpikaaZDRe
import Derived.Test.YtonbplflmdpikaaZDXx41
namespace Go.Proofs.Ytonbplflmdpikaa.Pure
set_option linter.unusedVariables false
set_option linter.unusedSimpArgs false
open Go.RowKit Go.Proofs.Ytonbplflmdpikaa.X Go.Proofs.Ytonbplflmdpikaa.Q Go.Proofs.Ytonbplflmdpikaa.Q.P7 Go.Proofs.YtonbplflmdpikaaW.PrintWords Go.Proofs.YtonbplflmdpikaaW.PrintLast Go.Proofs.YtonbplflmdpikaaW.PrintMore
theorem pt_len (x y : List Int) (hx : x.length ≤ 300) (hy : y.length ≤ 300) : (pt x y (x.length + 1) 0 x.length 0 y.length (List.replicate x.length (-1))).length = x.length :=
  (piece_ref x y hx hy (x.length + 1) 0 x.length 0 y.length (List.replicate x.length (-1)) (by omega) (by omega) (by omega) (by omega) (by omega) (by simp)).1
theorem PatienceDiffs : redlinelaw07_PatienceDiffs.Pure := by
  intro x y hx hx8 wx hy hy8 wy
  suffices H : Ev (fun k => redlinelaw07_PatienceDiffs.f k x y) true from H.rounds
  have hlong : ¬ (x.length ≤ 4096 ∧ y.length ≤ 4096) → Ev (fun k => redlinelaw07_PatienceDiffs.j0 k x y true) true := by
    intro h
    apply Ev_unfold
    simp only [redlinelaw07_PatienceDiffs.j0, if_true]
    refine Ev.bind (diff7_long x y h) ?_
    simp only [if_true, List.length_nil, Int.natCast_zero, beq_self_eq_true]
    exact Ev.now _
  unfold redlinelaw07_PatienceDiffs.f
  by_cases h1 : (x.length : Int) > 4096
  · simp only [if_pos h1]; exact hlong (by omega)
  simp only [if_neg h1]
  by_cases h2 : (y.length : Int) > 4096
  · simp only [decide_eq_true h2]; exact hlong (by omega)
  simp only [decide_eq_false h2]
  apply Ev_unfold
  simp only [redlinelaw07_PatienceDiffs.j0, Bool.false_eq_true, if_false]
  have hj : ∀ b : Bool, (b = false → x.length ≤ 150 ∧ y.length ≤ 150) → Ev (fun k => redlinelaw07_PatienceDiffs.j1 k x y b) true := by
    intro b hb
    apply Ev_unfold
    cases b with
    | true => simp only [redlinelaw07_PatienceDiffs.j1, if_true]; exact Ev.now _
    | false =>
      obtain ⟨hx2, hy2⟩ := hb rfl
      have g1 : 0 + x.length < 17592186044416 := by omega
      have g2 : 0 + y.length < 17592186044416 := by omega
      simp only [redlinelaw07_PatienceDiffs.j1, Bool.false_eq_true, if_false, bsome, List.nil_append, List.length_nil, if_pos g1, if_pos g2]
      refine Ev.bind (diff7_prog x y (by omega) (by omega) wx wy) ?_
      refine Ev.bind (diff7_ref x y (by omega) (by omega)) ?_
      simp only [if_true]
      have hl := pt_len x y (by omega) (by omega)
      have hm : (make (pt x y (x.length + 1) 0 x.length 0 y.length (List.replicate x.length (-1))) y.length).1.length ≤ 2000000000 := by
        unfold make
        split
        · simp
        · split
          · have := mk_len y.length (pt x y (x.length + 1) 0 x.length 0 y.length (List.replicate x.length (-1))) 0 0 0
            dsimp only
            omega
          · simp
      refine Ev.bind (same_ch _ hm) ?_
      simp only [if_true]
      refine Ev.bind (same_ints x (by omega)) ?_
      simp only [if_true]
      refine Ev.bind (same_ints y (by omega)) ?_
      exact Ev.now _
  by_cases h3 : (x.length : Int) > 150
  · simp only [if_pos h3]; exact hj true (fun h => by cases h)
  · simp only [if_neg h3]
    refine hj _ (fun h => ?_)
    have := of_decide_eq_false h
    omega
end Go.Proofs.Ytonbplflmdpikaa.Pure
