import Derived.Test.YtonbplflmdpikaaZOXx0
namespace Go.Proofs.Ytonbplflmdpikaa.X
open Go.RowKit Go.Proofs.YtonbplflmdpikaaW.PrintWords Go.Proofs.YtonbplflmdpikaaW.PrintLast Go.Proofs.YtonbplflmdpikaaW.PrintMore
attribute [local go_sem] max2_int min2_int max_two min_two max_three min_three max_four min_four   -- for this text's walks alone
open Go.Proofs.YtonbplflmdpikaaW.HandWords
set_option linter.unusedVariables false
set_option linter.unusedSimpArgs false
def redlineref07_rises.f (a0_0 : Int) (a0_1 : Int) (a1_0 : Int) (a1_1 : Int) : Option (Bool) := if a1_0 > a0_0 then (some (decide (a1_1 > a0_1))) else (some false)
end Go.Proofs.Ytonbplflmdpikaa.X
