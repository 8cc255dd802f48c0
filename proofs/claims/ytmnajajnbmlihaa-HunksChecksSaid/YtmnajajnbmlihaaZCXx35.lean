import Derived.Test.YtmnajajnbmlihaaZCXx0
import Derived.Test.YtmnajajnbmlihaaZCXx4
import Derived.Test.YtmnajajnbmlihaaZCXx5
import Derived.Test.YtmnajajnbmlihaaZCXx6
import Derived.Test.YtmnajajnbmlihaaZCXx22
import Derived.Test.YtmnajajnbmlihaaZCXx23
import Derived.Test.YtmnajajnbmlihaaZCXx33
import Derived.Test.YtmnajajnbmlihaaZCXx34
namespace Go.Proofs.Ytmnajajnbmlihaa.X
open Go.RowKit Go.Proofs.YtmnajajnbmlihaaW.PrintWords Go.Proofs.YtmnajajnbmlihaaW.PrintLast Go.Proofs.YtmnajajnbmlihaaW.PrintMore
attribute [local go_sem] max2_int min2_int max_two min_two max_three min_three max_four min_four   -- for this text's walks alone
open Go.Proofs.YtmnajajnbmlihaaW.HandWords
set_option linter.unusedVariables false
set_option linter.unusedSimpArgs false
def redlinelaw11_HunksOrder.f (k : Nat) (l0 : List (S39)) : Option (Bool) := (redlineref11_Copy.f k l0).bind fun t265 => ((hunks_Changes.f k t265).bind fun bt268 => ((redlineref11_Changes.f k l0).bind fun bt272 => ((hunks_Order.f k t265).bind fun t276 => ((redlineref11_Order.f k l0).bind fun t277 => (if t276 = t277 then (if bt268.2 = bt272.2 then ((redlineref05_Same.f k bt268.1 bt272.1).bind fun t278 => (if t278 = true then ((redlineref11_SameHunks.f k t265 l0).bind fun t279 => (some t279)) else (some false))) else (some false)) else (some false))))))
end Go.Proofs.Ytmnajajnbmlihaa.X
