import Derived.Test.YtchhelmilbheoaaDoorZMXx0
import Derived.Test.YtchhelmilbheoaaDoorZMXx77
import Derived.Test.YtchhelmilbheoaaDoorZMXx78
namespace Go.Proofs.YtchhelmilbheoaaDoor.X
open Go.RowKit Go.Proofs.YtchhelmilbheoaaDoorW.PrintWords Go.Proofs.YtchhelmilbheoaaDoorW.PrintLast Go.Proofs.YtchhelmilbheoaaDoorW.PrintMore
attribute [local go_sem] max2_int min2_int max_two min_two max_three min_three max_four min_four   -- for this text's walks alone
open Go.Proofs.YtchhelmilbheoaaDoorW.HandWords
set_option linter.unusedVariables false
set_option linter.unusedSimpArgs false
def redlineref17_shown.f (k : Nat) (a0 : ByteArray) (a1 : Int) : Option (ByteArray) := (redlineref02_Bare.f a0).bind fun bt178 => ((redlineref03_Expand.f k bt178.1).bind fun t180 => (if 0 ≤ (mn a1 (t180.size : Int)) then (if (mn a1 (t180.size : Int)) ≤ (t180.size : Int) then (some (t180.extract 0 ((mn a1 (t180.size : Int)) : Int).toNat)) else (none)) else (none)))
end Go.Proofs.YtchhelmilbheoaaDoor.X
