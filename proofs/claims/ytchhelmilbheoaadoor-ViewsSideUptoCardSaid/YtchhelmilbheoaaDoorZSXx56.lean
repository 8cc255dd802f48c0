import Derived.Test.YtchhelmilbheoaaDoorZSXx0
import Derived.Test.YtchhelmilbheoaaDoorZSXx54
import Derived.Test.YtchhelmilbheoaaDoorZSXx55
namespace Go.Proofs.YtchhelmilbheoaaDoor.X
open Go.RowKit Go.Proofs.YtchhelmilbheoaaDoorW.PrintWords Go.Proofs.YtchhelmilbheoaaDoorW.PrintLast Go.Proofs.YtchhelmilbheoaaDoorW.PrintMore
attribute [local go_sem] max2_int min2_int max_two min_two max_three min_three max_four min_four   -- for this text's walks alone
open Go.Proofs.YtchhelmilbheoaaDoorW.HandWords
set_option linter.unusedVariables false
set_option linter.unusedSimpArgs false
def redlinelaw21_SdiffAsks.f (k : Nat) (l0 : List (S72)) (l1 : List ByteArray) (l2 : List ByteArray) (a3 : Int) (a4 : Int) : Option (Bool) := (sdiff_Ask.f k l0 l1 l2 a3 a4).bind fun bt210 => ((redlineref21_Ask.f k l0 l1 l2 a3 a4).bind fun bt212 => (if bt210.1.toList = bt212.1.toList then (some (bt210.2 == bt212.2)) else (some false)))
end Go.Proofs.YtchhelmilbheoaaDoor.X
