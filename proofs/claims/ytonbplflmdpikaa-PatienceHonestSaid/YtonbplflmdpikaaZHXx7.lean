import Derived.Test.YtonbplflmdpikaaZHXx0
namespace Go.Proofs.Ytonbplflmdpikaa.X
open Go.RowKit Go.Proofs.YtonbplflmdpikaaW.PrintWords Go.Proofs.YtonbplflmdpikaaW.PrintLast Go.Proofs.YtonbplflmdpikaaW.PrintMore
attribute [local go_sem] max2_int min2_int max_two min_two max_three min_three max_four min_four   -- for this text's walks alone
open Go.Proofs.YtonbplflmdpikaaW.HandWords
set_option linter.unusedVariables false
set_option linter.unusedSimpArgs false
def redlineref07_times.l0 : Nat → List Int → Int → Int → Int → Option (Int)
  | 0, _, _, _, _ => none
  | k + 1, x0, x1, x5, x6 => if x6 < (x0.length : Int) then (if 0 ≤ x6 then (if (rd x0 x6) = x1 then (redlineref07_times.l0 k x0 x1 (wrap64 (x5 + 1)) (wrap64 (x6 + 1))) else (redlineref07_times.l0 k x0 x1 x5 (wrap64 (x6 + 1)))) else (none)) else (some x5)
def redlineref07_times.f (k : Nat) (l0 : List Int) (a1 : Int) : Option (Int) := redlineref07_times.l0 k l0 a1 0 0
end Go.Proofs.Ytonbplflmdpikaa.X
