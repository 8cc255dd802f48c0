import Derived.Test.YtchhelmilbheoaaDoorZMXx0
import Derived.Test.YtchhelmilbheoaaDoorZMXx75
namespace Go.Proofs.YtchhelmilbheoaaDoor.X
open Go.RowKit Go.Proofs.YtchhelmilbheoaaDoorW.PrintWords Go.Proofs.YtchhelmilbheoaaDoorW.PrintLast Go.Proofs.YtchhelmilbheoaaDoorW.PrintMore
attribute [local go_sem] max2_int min2_int max_two min_two max_three min_three max_four min_four   -- for this text's walks alone
open Go.Proofs.YtchhelmilbheoaaDoorW.HandWords
set_option linter.unusedVariables false
set_option linter.unusedSimpArgs false
mutual
def redlineref05_Keep.l0 : Nat → List (S72) → Int → List Int → Int → Int → Int → Option (List Int × Int)
  | 0, _, _, _, _, _, _ => none
  | k + 1, x0, x1, x8, x9, x10, x11 => if x11 < x1 then (redlineref05_Keep.l1 k x0 x1 x8 x9 x10 x11) else (some (x8, 0))
def redlineref05_Keep.l1 : Nat → List (S72) → Int → List Int → Int → Int → Int → Option (List Int × Int)
  | 0, _, _, _, _, _, _ => none
  | k + 1, x0, x1, x8, x9, x10, x11 => if x10 < (x0.length : Int) then (if 0 ≤ x10 then (if x11 ≥ (wrap64 (((rd_T72 x0 x10).f0) + ((rd_T72 x0 x10).f1))) then (redlineref05_Keep.l1 k x0 x1 x8 (wrap64 (((rd_T72 x0 x10).f2) + ((rd_T72 x0 x10).f3))) (wrap64 (x10 + 1)) x11) else (if x11 ≥ ((rd_T72 x0 x10).f0) then (if x8.length < 17592186044416 then (redlineref05_Keep.l0 k x0 x1 (x8 ++ [(-1)]) x9 x10 (wrap64 (x11 + 1))) else (none)) else (if x8.length < 17592186044416 then (redlineref05_Keep.l0 k x0 x1 (x8 ++ [x9]) (wrap64 (x9 + 1)) x10 (wrap64 (x11 + 1))) else (none)))) else (none)) else (if x8.length < 17592186044416 then (redlineref05_Keep.l0 k x0 x1 (x8 ++ [x9]) (wrap64 (x9 + 1)) x10 (wrap64 (x11 + 1))) else (none))
end
def redlineref05_Keep.f (k : Nat) (l0 : List (S72)) (a1 : Int) (a2 : Int) : Option (List Int × Int) := (redlineref05_Check.f k l0 a1 a2).bind fun t154 => (if t154 = 0 then (redlineref05_Keep.l0 k l0 a1 ([] : List Int) 0 0 0) else (some (([] : List Int), 50)))
end Go.Proofs.YtchhelmilbheoaaDoor.X
