import Derived.Test.YtchhelmilbheoaaDoorZMXx0
namespace Go.Proofs.YtchhelmilbheoaaDoor.X
open Go.RowKit Go.Proofs.YtchhelmilbheoaaDoorW.PrintWords Go.Proofs.YtchhelmilbheoaaDoorW.PrintLast Go.Proofs.YtchhelmilbheoaaDoorW.PrintMore
attribute [local go_sem] max2_int min2_int max_two min_two max_three min_three max_four min_four   -- for this text's walks alone
open Go.Proofs.YtchhelmilbheoaaDoorW.HandWords
set_option linter.unusedVariables false
set_option linter.unusedSimpArgs false
def redlineref02_Bare.f (a0 : ByteArray) : Option (ByteArray × Bool) := if (a0.size : Int) = 0 then (some (a0, false)) else (if 0 ≤ (wrap64 ((a0.size : Int) - 1)) then (if (wrap64 ((a0.size : Int) - 1)) < (a0.size : Int) then (if (bt a0 (wrap64 ((a0.size : Int) - 1))) = 10 then (if (wrap64 ((a0.size : Int) - 1)) ≤ (a0.size : Int) then (some (a0.extract 0 ((wrap64 ((a0.size : Int) - 1)) : Int).toNat, true)) else (none)) else (some (a0, false))) else (none)) else (none))
end Go.Proofs.YtchhelmilbheoaaDoor.X
