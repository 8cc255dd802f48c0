/- The example by which chapter 6's statements begin holds. -/
import Derived.Test.YtdcldoembdifpaaQc
import Derived.Test.YtdcldoembdifpaaQa
import Derived.Test.YtdcldoembdifpaaXx25
import Derived.Test.YtdcldoembdifpaaXx27
namespace Go.Proofs.Ytdcldoembdifpaa.Q
set_option linter.unusedVariables false
set_option linter.unusedSimpArgs false
open Go.RowKit Go.Proofs.Ytdcldoembdifpaa.X Go.Proofs.YtdcldoembdifpaaW.PrintWords Go.Proofs.YtdcldoembdifpaaW.PrintLast Go.Proofs.YtdcldoembdifpaaW.PrintMore

theorem works06 : Ev (fun k => redlinelaw06_works.f k) true := by
  have e1 : kp [1, 2, 3, 1] [2, 1, 3] 0 = [-1, 0, -1, 1] := by simp [kp_cons, L_cons, kp_nil, L_nil_l, L_nil_r]
  have e2 : L [1, 2, 3, 1] [2, 1, 3] = 2 := by simp [L_cons, L_nil_l, L_nil_r]
  have e3 : make [-1, 0, -1, 1] ((([2, 1, 3] : List Int).length : Nat) : Int) = ([⟨0, 1, 0, 0⟩, ⟨2, 1, 1, 0⟩, ⟨4, 0, 2, 1⟩], 0) := by
    simp [make, okK, mk]
  have d := diff_prog [1, 2, 3, 1] [2, 1, 3] (by simp) (by simp)
  have l := length_prog [1, 2, 3, 1] [2, 1, 3] (by simp) (by simp)
  rw [e1, e3] at d
  rw [e2] at l
  unfold redlinelaw06_works.f
  refine Ev.bind d ?_
  refine Ev.bind l ?_
  simp only [if_true]
  refine Ev.bind (same_ch _ (by simp)) ?_
  simp only [if_true]
  exact Ev.now _
end Go.Proofs.Ytdcldoembdifpaa.Q
