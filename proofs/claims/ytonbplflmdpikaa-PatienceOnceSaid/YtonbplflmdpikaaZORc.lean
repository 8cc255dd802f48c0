/- plain: the longest rising row: the reference's is the program's -/
import Derived.Test.YtonbplflmdpikaaZORb
namespace Go.Proofs.Ytonbplflmdpikaa.Q
set_option linter.unusedVariables false
set_option linter.unusedSimpArgs false
open Go.RowKit Go.Proofs.Ytonbplflmdpikaa.X Go.Proofs.YtonbplflmdpikaaW.PrintWords Go.Proofs.YtonbplflmdpikaaW.PrintLast Go.Proofs.YtonbplflmdpikaaW.PrintMore
namespace P7
section
variable (l : List S27) (hl : l.length ≤ 300)
include hl
end
theorem sel_len : ∀ ps ns want out, (pl_sel ps ns want out).length ≤ out.length + ps.length := by
  intro ps
  induction ps with
  | nil => intro ns want out; simp [pl_sel]
  | cons p ps ih =>
    intro ns want out
    cases ns with
    | nil => simp [pl_sel]
    | cons n ns =>
      rw [pl_sel, List.length_cons]
      split
      · have := ih ns (want - 1) (out ++ [p]); rw [List.length_append, List.length_singleton] at this; omega
      · have := ih ns want out; omega
theorem lrow_len (l : List S27) : (lrow l).length ≤ l.length := by
  have := sel_len l (pl_long l) (pl_max (pl_long l)) []
  simpa [lrow] using this
theorem rows_len (x y : List Int) : ∀ q i, (pu_rows x y q i).length ≤ q := by
  intro q
  induction q with
  | zero => intro i; simp [pu_rows]
  | succ q ih => intro i; have := ih (i + 1); rw [pu_rows, List.length_append]; split <;> simp <;> omega
end P7
end Go.Proofs.Ytonbplflmdpikaa.Q
