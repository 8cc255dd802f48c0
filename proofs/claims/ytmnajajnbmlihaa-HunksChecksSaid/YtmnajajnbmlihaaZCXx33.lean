import Derived.Test.YtmnajajnbmlihaaZCXx0
import Derived.Test.YtmnajajnbmlihaaZCXx31
import Derived.Test.YtmnajajnbmlihaaZCXx32
namespace Go.Proofs.Ytmnajajnbmlihaa.X
open Go.RowKit Go.Proofs.YtmnajajnbmlihaaW.PrintWords Go.Proofs.YtmnajajnbmlihaaW.PrintLast Go.Proofs.YtmnajajnbmlihaaW.PrintMore
attribute [local go_sem] max2_int min2_int max_two min_two max_three min_three max_four min_four   -- for this text's walks alone
open Go.Proofs.YtmnajajnbmlihaaW.HandWords
set_option linter.unusedVariables false
set_option linter.unusedSimpArgs false
mutual
def redlineref11_Order.l0 : Nat → List (S39) → Int → Option (Int)
  | 0, _, _ => none
  | k + 1, x0, x3 => if x3 < (x0.length : Int) then (if 0 ≤ x3 then ((redlineref11_Check.f k ((rd_T39 x0 x3).f0) ((rd_T39 x0 x3).f1) ((rd_T39 x0 x3).f2) ((rd_T39 x0 x3).f3) ((rd_T39 x0 x3).f4)).bind fun t237 => (if t237 = 0 then (redlineref11_Order.l0 k x0 (wrap64 (x3 + 1))) else (some t237))) else (none)) else (redlineref11_Order.l1 k x0 0 0 0)
def redlineref11_Order.l1 : Nat → List (S39) → Int → Int → Int → Option (Int)
  | 0, _, _, _, _ => none
  | k + 1, x0, x5, x6, x7 => if x7 < (x0.length : Int) then (if 0 ≤ x7 then ((redlineref11_At.f ((rd_T39 x0 x7).f0) ((rd_T39 x0 x7).f1) ((rd_T39 x0 x7).f2) ((rd_T39 x0 x7).f3) ((rd_T39 x0 x7).f4)).bind fun bt239 => (if bt239.1 < x5 then (some 121) else (if (wrap64 (bt239.1 - x5)) = (wrap64 (bt239.2 - x6)) then (redlineref11_Order.l1 k x0 (wrap64 (bt239.1 + ((rd_T39 x0 x7).f1))) (wrap64 (bt239.2 + ((rd_T39 x0 x7).f3))) (wrap64 (x7 + 1))) else (some 121)))) else (none)) else (some 0)
end
def redlineref11_Order.f (k : Nat) (l0 : List (S39)) : Option (Int) := redlineref11_Order.l0 k l0 0
end Go.Proofs.Ytmnajajnbmlihaa.X
