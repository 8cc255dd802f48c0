import Derived.Test.YtglffceopijogaaDoorZPXx0
import Derived.Test.YtglffceopijogaaDoorZPXx51
namespace Go.Proofs.YtglffceopijogaaDoor.X
open Go.RowKit Go.Proofs.YtglffceopijogaaDoorW.PrintWords Go.Proofs.YtglffceopijogaaDoorW.PrintLast Go.Proofs.YtglffceopijogaaDoorW.PrintMore
attribute [local go_sem] max2_int min2_int max_two min_two max_three min_three max_four min_four   -- for this text's walks alone
open Go.Proofs.YtglffceopijogaaDoorW.HandWords
set_option linter.unusedVariables false
set_option linter.unusedSimpArgs false
def redlineref03_without.l0 : Nat → ByteArray → Bool → List Int → Int → Option (ByteArray)
  | 0, _, _, _, _ => none
  | k + 1, x0, x1, x5, x6 => if x6 < (x0.size : Int) then (if 0 ≤ x6 then ((redlineref03_white.f (bt x0 x6)).bind fun t127 => (if t127 = true then (if x1 = true then (if x6 = 0 then (if x5.length < 140737488355328 then (redlineref03_without.l0 k x0 x1 (x5 ++ [32]) (wrap64 (x6 + 1))) else (none)) else (if 0 ≤ (wrap64 (x6 - 1)) then (if (wrap64 (x6 - 1)) < (x0.size : Int) then ((redlineref03_white.f (bt x0 (wrap64 (x6 - 1)))).bind fun t131 => (if t131 = true then (redlineref03_without.l0 k x0 x1 x5 (wrap64 (x6 + 1))) else (if x5.length < 140737488355328 then (redlineref03_without.l0 k x0 x1 (x5 ++ [32]) (wrap64 (x6 + 1))) else (none)))) else (none)) else (none))) else (redlineref03_without.l0 k x0 x1 x5 (wrap64 (x6 + 1)))) else (if x5.length < 140737488355328 then (redlineref03_without.l0 k x0 x1 (x5 ++ [bt x0 x6]) (wrap64 (x6 + 1))) else (none)))) else (none)) else (some (strOfNums x5))
def redlineref03_without.f (k : Nat) (a0 : ByteArray) (a1 : Bool) : Option (ByteArray) := redlineref03_without.l0 k a0 a1 ([] : List Int) 0
end Go.Proofs.YtglffceopijogaaDoor.X
