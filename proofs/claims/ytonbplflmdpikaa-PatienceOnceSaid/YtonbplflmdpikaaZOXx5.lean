import Derived.Test.YtonbplflmdpikaaZOXx0
namespace Go.Proofs.Ytonbplflmdpikaa.X
open Go.RowKit Go.Proofs.YtonbplflmdpikaaW.PrintWords Go.Proofs.YtonbplflmdpikaaW.PrintLast Go.Proofs.YtonbplflmdpikaaW.PrintMore
attribute [local go_sem] max2_int min2_int max_two min_two max_three min_three max_four min_four   -- for this text's walks alone
open Go.Proofs.YtonbplflmdpikaaW.HandWords
set_option linter.unusedVariables false
set_option linter.unusedSimpArgs false
def redlinelaw07_same.l0 : Nat → List (S27) → List (S26) → Int → Option (Bool)
  | 0, _, _, _ => none
  | k + 1, x0, x1, x5 => if x5 < (x0.length : Int) then (if 0 ≤ x5 then (if x5 < (x1.length : Int) then (if ((rd_T27 x0 x5).f0) = ((rd_T26 x1 x5).f0) then (if ((rd_T27 x0 x5).f1) = ((rd_T26 x1 x5).f1) then (redlinelaw07_same.l0 k x0 x1 (wrap64 (x5 + 1))) else (some false)) else (some false)) else (none)) else (none)) else (some true)
def redlinelaw07_same.f (k : Nat) (l0 : List (S27)) (l1 : List (S26)) : Option (Bool) := if (l0.length : Int) = (l1.length : Int) then (redlinelaw07_same.l0 k l0 l1 0) else (some false)
end Go.Proofs.Ytonbplflmdpikaa.X
