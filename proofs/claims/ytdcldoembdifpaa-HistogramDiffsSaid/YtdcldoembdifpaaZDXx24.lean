-- printed by xprint.py, a program of this session's own over the kit's print
import Derived.Test.YtdcldoembdifpaaZDXx0
import Derived.Test.YtdcldoembdifpaaZDXx21
import Derived.Test.YtdcldoembdifpaaZDXx23
namespace Go.Proofs.Ytdcldoembdifpaa.X
open Go.RowKit Go.Proofs.YtdcldoembdifpaaW.PrintWords Go.Proofs.YtdcldoembdifpaaW.PrintLast Go.Proofs.YtdcldoembdifpaaW.PrintMore
attribute [local go_sem] max2_int min2_int max_two min_two max_three min_three max_four min_four   -- for this text's walks alone
open Go.Proofs.YtdcldoembdifpaaW.HandWords
set_option linter.unusedVariables false
set_option linter.unusedSimpArgs false
/-! ### redlineref06_Diff: function 23 -/
def redlineref06_Diff.j0 : Nat → List Int → List Int → Bool → Option ((List (S64)) × Int)
  | 0, _, _, _ => none
  | k + 1, x0, x1, x13 => if x13 = true then (some (([] : List (S64)), 9)) else ((redlineref06_Keeps.f k x0 x1).bind fun t284 => ((redlineref05_Make.f k t284 (x1.length : Int)).bind fun bt287 => (some (bt287.1, bt287.2))))
def redlineref06_Diff.f (k : Nat) (l0 : List Int) (l1 : List Int) : Option ((List (S64)) × Int) := if (l0.length : Int) > 4096 then (redlineref06_Diff.j0 k l0 l1 true) else (redlineref06_Diff.j0 k l0 l1 (decide ((l1.length : Int) > 4096)))
end Go.Proofs.Ytdcldoembdifpaa.X
