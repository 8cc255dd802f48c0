import Derived.Test.YtmnajajnbmlihaaZCXx0
import Derived.Test.YtmnajajnbmlihaaZCXx20
import Derived.Test.YtmnajajnbmlihaaZCXx21
namespace Go.Proofs.Ytmnajajnbmlihaa.X
open Go.RowKit Go.Proofs.YtmnajajnbmlihaaW.PrintWords Go.Proofs.YtmnajajnbmlihaaW.PrintLast Go.Proofs.YtmnajajnbmlihaaW.PrintMore
attribute [local go_sem] max2_int min2_int max_two min_two max_three min_three max_four min_four   -- for this text's walks alone
open Go.Proofs.YtmnajajnbmlihaaW.HandWords
set_option linter.unusedVariables false
set_option linter.unusedSimpArgs false
mutual
def hunks_Order.l0 : Nat → List (S39) → List (S39) → Int → Int → Option (Int)
  | 0, _, _, _, _ => none
  | k + 1, x0, x12, x13, x14 => if x14 < x13 then (if 0 ≤ x14 then (if x14 < (x12.length : Int) then ((hunks_Check.f k ((rd_T39 x12 x14).f0) ((rd_T39 x12 x14).f1) ((rd_T39 x12 x14).f2) ((rd_T39 x12 x14).f3) ((rd_T39 x12 x14).f4)).bind fun t156 => (if t156 = 0 then (hunks_Order.l0 k x0 x12 x13 (wrap64 (x14 + 1))) else (some t156))) else (none)) else (none)) else (hunks_Order.l1 k 0 0 x0 (x0.length : Int) 0)
def hunks_Order.l1 : Nat → Int → Int → List (S39) → Int → Int → Option (Int)
  | 0, _, _, _, _, _ => none
  | k + 1, x6, x7, x24, x25, x26 => if x26 < x25 then (if 0 ≤ x26 then (if x26 < (x24.length : Int) then ((hunks_stands.f ((rd_T39 x24 x26).f0) ((rd_T39 x24 x26).f1) ((rd_T39 x24 x26).f2) ((rd_T39 x24 x26).f3) ((rd_T39 x24 x26).f4)).bind fun bt159 => (if bt159.1 < x6 then (some 121) else (if (wrap64 (bt159.1 - x6)) = (wrap64 (bt159.2 - x7)) then (hunks_Order.l1 k (wrap64 (bt159.1 + ((rd_T39 x24 x26).f1))) (wrap64 (bt159.2 + ((rd_T39 x24 x26).f3))) x24 x25 (wrap64 (x26 + 1))) else (some 121)))) else (none)) else (none)) else (some 0)
end
def hunks_Order.f (k : Nat) (l0 : List (S39)) : Option (Int) := hunks_Order.l0 k l0 l0 (l0.length : Int) 0
end Go.Proofs.Ytmnajajnbmlihaa.X
