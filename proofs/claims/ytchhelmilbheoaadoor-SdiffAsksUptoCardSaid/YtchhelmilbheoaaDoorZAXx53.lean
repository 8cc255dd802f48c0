import Derived.Test.YtchhelmilbheoaaDoorZAXx0
import Derived.Test.YtchhelmilbheoaaDoorZAXx44
import Derived.Test.YtchhelmilbheoaaDoorZAXx52
namespace Go.Proofs.YtchhelmilbheoaaDoor.X
open Go.RowKit Go.Proofs.YtchhelmilbheoaaDoorW.PrintWords Go.Proofs.YtchhelmilbheoaaDoorW.PrintLast Go.Proofs.YtchhelmilbheoaaDoorW.PrintMore
attribute [local go_sem] max2_int min2_int max_two min_two max_three min_three max_four min_four   -- for this text's walks alone
open Go.Proofs.YtchhelmilbheoaaDoorW.HandWords
set_option linter.unusedVariables false
set_option linter.unusedSimpArgs false
def redlinelaw17_ViewsSide.f (k : Nat) (l0 : List (S72)) (l1 : List ByteArray) (l2 : List ByteArray) (a3 : Int) : Option (Bool) := (views_Side.f k l0 l1 l2 a3).bind fun bt186 => ((redlineref17_Side.f k l0 l1 l2 a3).bind fun bt188 => (if bt186.1.toList = bt188.1.toList then (some (bt186.2 == bt188.2)) else (some false)))
end Go.Proofs.YtchhelmilbheoaaDoor.X
