import Derived.Test.YtchhelmilbheoaaDoorZMXx0
namespace Go.Proofs.YtchhelmilbheoaaDoor.X
open Go.RowKit Go.Proofs.YtchhelmilbheoaaDoorW.PrintWords Go.Proofs.YtchhelmilbheoaaDoorW.PrintLast Go.Proofs.YtchhelmilbheoaaDoorW.PrintMore
attribute [local go_sem] max2_int min2_int max_two min_two max_three min_three max_four min_four   -- for this text's walks alone
open Go.Proofs.YtchhelmilbheoaaDoorW.HandWords
set_option linter.unusedVariables false
set_option linter.unusedSimpArgs false
mutual
def redlineref03_Expand.l0 : Nat → ByteArray → List Int → Int → Option (ByteArray)
  | 0, _, _, _ => none
  | k + 1, x0, x3, x4 => if x4 < (x0.size : Int) then (if 0 ≤ x4 then (if (bt x0 x4) = 9 then (if x3.length < 140737488355328 then (redlineref03_Expand.l1 k x0 (x3 ++ [32]) x4) else (none)) else (if x3.length < 140737488355328 then (redlineref03_Expand.l0 k x0 (x3 ++ [bt x0 x4]) (wrap64 (x4 + 1))) else (none))) else (none)) else (some (strOfNums x3))
def redlineref03_Expand.l1 : Nat → ByteArray → List Int → Int → Option (ByteArray)
  | 0, _, _, _ => none
  | k + 1, x0, x3, x4 => if ((x3.length : Int) % 8) = 0 then (redlineref03_Expand.l0 k x0 x3 (wrap64 (x4 + 1))) else (if x3.length < 140737488355328 then (redlineref03_Expand.l1 k x0 (x3 ++ [32]) x4) else (none))
end
def redlineref03_Expand.f (k : Nat) (a0 : ByteArray) : Option (ByteArray) := redlineref03_Expand.l0 k a0 ([] : List Int) 0
end Go.Proofs.YtchhelmilbheoaaDoor.X
