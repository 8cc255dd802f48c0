-- printed by xprint.py, a program of this session's own over the kit's print
import Derived.Test.YtdcldoembdifpaaZDXx0
import Derived.Test.YtdcldoembdifpaaZDXx22
namespace Go.Proofs.Ytdcldoembdifpaa.X
open Go.RowKit Go.Proofs.YtdcldoembdifpaaW.PrintWords Go.Proofs.YtdcldoembdifpaaW.PrintLast Go.Proofs.YtdcldoembdifpaaW.PrintMore
attribute [local go_sem] max2_int min2_int max_two min_two max_three min_three max_four min_four   -- for this text's walks alone
open Go.Proofs.YtdcldoembdifpaaW.HandWords
set_option linter.unusedVariables false
set_option linter.unusedSimpArgs false
/-! ### redlineref06_Length: function 24 -/
def redlineref06_Length.f (k : Nat) (l0 : List Int) (l1 : List Int) : Option (Int × Int) := if (l0.length : Int) > 4096 then (some (0, 9)) else (if (l1.length : Int) > 4096 then (some (0, 9)) else ((redlineref06_table.f k l0 l1).bind fun t291 => (if 0 < (t291.length : Int) then (if 0 < ((rd_L4 t291 0).length : Int) then (some (rd (rd_L4 t291 0) 0, 0)) else (none)) else (none))))
end Go.Proofs.Ytdcldoembdifpaa.X
