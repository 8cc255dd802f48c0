import Derived.Test.YtchhelmilbheoaaDoorZMXx0
import Derived.Test.YtchhelmilbheoaaDoorZMXx74
namespace Go.Proofs.YtchhelmilbheoaaDoor.X
open Go.RowKit Go.Proofs.YtchhelmilbheoaaDoorW.PrintWords Go.Proofs.YtchhelmilbheoaaDoorW.PrintLast Go.Proofs.YtchhelmilbheoaaDoorW.PrintMore
attribute [local go_sem] max2_int min2_int max_two min_two max_three min_three max_four min_four   -- for this text's walks alone
open Go.Proofs.YtchhelmilbheoaaDoorW.HandWords
set_option linter.unusedVariables false
set_option linter.unusedSimpArgs false
mutual
def redlineref05_Check.j0 : Nat → List (S72) → Int → Int → Bool → Option (Int)
  | 0, _, _, _, _ => none
  | k + 1, x0, x1, x2, x16 => if x16 = true then (some 50) else (redlineref05_Check.l0 k x0 x1 x2 0 0 0)
def redlineref05_Check.l0 : Nat → List (S72) → Int → Int → Int → Int → Int → Option (Int)
  | 0, _, _, _, _, _, _ => none
  | k + 1, x0, x1, x2, x7, x8, x9 => if x9 < (x0.length : Int) then (if 0 ≤ x9 then ((redlineref05_count.f ((rd_T72 x0 x9).f0)).bind fun t150 => (if t150 = true then ((redlineref05_count.f ((rd_T72 x0 x9).f1)).bind fun t151 => (if t151 = true then ((redlineref05_count.f ((rd_T72 x0 x9).f2)).bind fun t152 => (if t152 = true then ((redlineref05_count.f ((rd_T72 x0 x9).f3)).bind fun t153 => (if t153 = true then (redlineref05_Check.j2 k x0 x1 x2 x7 x8 x9 ((wrap64 (((rd_T72 x0 x9).f1) + ((rd_T72 x0 x9).f3))) == 0) ((rd_T72 x0 x9).f0) ((rd_T72 x0 x9).f1) ((rd_T72 x0 x9).f2) ((rd_T72 x0 x9).f3)) else (redlineref05_Check.j2 k x0 x1 x2 x7 x8 x9 true ((rd_T72 x0 x9).f0) ((rd_T72 x0 x9).f1) ((rd_T72 x0 x9).f2) ((rd_T72 x0 x9).f3)))) else (redlineref05_Check.j2 k x0 x1 x2 x7 x8 x9 true ((rd_T72 x0 x9).f0) ((rd_T72 x0 x9).f1) ((rd_T72 x0 x9).f2) ((rd_T72 x0 x9).f3)))) else (redlineref05_Check.j2 k x0 x1 x2 x7 x8 x9 true ((rd_T72 x0 x9).f0) ((rd_T72 x0 x9).f1) ((rd_T72 x0 x9).f2) ((rd_T72 x0 x9).f3)))) else (redlineref05_Check.j2 k x0 x1 x2 x7 x8 x9 true ((rd_T72 x0 x9).f0) ((rd_T72 x0 x9).f1) ((rd_T72 x0 x9).f2) ((rd_T72 x0 x9).f3)))) else (none)) else (if x7 > x1 then (some 50) else (if x8 > x2 then (some 50) else (if (wrap64 (x1 - x7)) = (wrap64 (x2 - x8)) then (some 0) else (some 50))))
def redlineref05_Check.j2 : Nat → List (S72) → Int → Int → Int → Int → Int → Bool → Int → Int → Int → Int → Option (Int)
  | 0, _, _, _, _, _, _, _, _, _, _, _ => none
  | k + 1, x0, x1, x2, x7, x8, x9, x56, x150000, x150001, x150002, x150003 => if x56 = true then (some 50) else (if (wrap64 (x150000 - x7)) = (wrap64 (x150002 - x8)) then (if x150000 < x7 then (some 50) else (if x9 > 0 then (if x150000 = x7 then (some 50) else (redlineref05_Check.l0 k x0 x1 x2 (wrap64 (x150000 + x150001)) (wrap64 (x150002 + x150003)) (wrap64 (x9 + 1)))) else (redlineref05_Check.l0 k x0 x1 x2 (wrap64 (x150000 + x150001)) (wrap64 (x150002 + x150003)) (wrap64 (x9 + 1))))) else (some 50))
end
def redlineref05_Check.f (k : Nat) (l0 : List (S72)) (a1 : Int) (a2 : Int) : Option (Int) := if a1 < 0 then (redlineref05_Check.j0 k l0 a1 a2 true) else (redlineref05_Check.j0 k l0 a1 a2 (decide (a2 < 0)))
end Go.Proofs.YtchhelmilbheoaaDoor.X
