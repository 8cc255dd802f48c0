/- Honest: how many pairs a script keeps, and whether they are the same. -/
import Derived.Test.YtonbplflmdpikaaZOQh
import Derived.Test.YtonbplflmdpikaaZOXx47
namespace Go.Proofs.Ytonbplflmdpikaa.Q
set_option linter.unusedVariables false
set_option linter.unusedSimpArgs false
open Go.RowKit Go.Proofs.Ytonbplflmdpikaa.X Go.Proofs.YtonbplflmdpikaaW.PrintWords Go.Proofs.YtonbplflmdpikaaW.PrintLast Go.Proofs.YtonbplflmdpikaaW.PrintMore
def nn (keep : List Int) : Nat := (keep.filter fun k => decide (0 ≤ k)).length
theorem nn_cons_pos {k : Int} {ks : List Int} (h : 0 ≤ k) : nn (k :: ks) = nn ks + 1 := by simp [nn, h]
theorem nn_cons_neg {k : Int} {ks : List Int} (h : ¬ 0 ≤ k) : nn (k :: ks) = nn ks := by simp [nn, h]
/-- all that is kept is the same in both -/
def Hon (x y keep : List Int) : Prop := ∀ i, i < keep.length → 0 ≤ keep.getD i 0 → keep.getD i 0 < (y.length : Int) ∧ x.getD i 0 = y.getD (keep.getD i 0).toNat 0
end Go.Proofs.Ytonbplflmdpikaa.Q
