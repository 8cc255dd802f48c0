import Derived.Test.YtchhelmilbheoaaDoorZRXx0
import Derived.Test.YtchhelmilbheoaaDoorZRXx40
namespace Go.Proofs.YtchhelmilbheoaaDoor.X
open Go.RowKit Go.Proofs.YtchhelmilbheoaaDoorW.PrintWords Go.Proofs.YtchhelmilbheoaaDoorW.PrintLast Go.Proofs.YtchhelmilbheoaaDoorW.PrintMore
attribute [local go_sem] max2_int min2_int max_two min_two max_three min_three max_four min_four   -- for this text's walks alone
open Go.Proofs.YtchhelmilbheoaaDoorW.HandWords
set_option linter.unusedVariables false
set_option linter.unusedSimpArgs false
mutual
def edits_Check.l0 : Nat → Int → Int → Int → Int → List (S72) → Int → Int → Option (Int)
  | 0, _, _, _, _, _, _, _ => none
  | k + 1, x1, x2, x7, x8, x12, x13, x14 => if x14 < x13 then (if 0 ≤ x14 then (if x14 < (x12.length : Int) then ((edits_count.f ((rd_T72 x12 x14).f0)).bind fun t130 => (if t130 = true then ((edits_count.f ((rd_T72 x12 x14).f1)).bind fun t131 => (if t131 = true then ((edits_count.f ((rd_T72 x12 x14).f2)).bind fun t132 => (if t132 = true then ((edits_count.f ((rd_T72 x12 x14).f3)).bind fun t133 => (if t133 = true then (if ((rd_T72 x12 x14).f1) = 0 then (edits_Check.j1 k x1 x2 x7 x8 x14 x12 x13 x14 (((rd_T72 x12 x14).f3) == 0) ((rd_T72 x12 x14).f0) ((rd_T72 x12 x14).f1) ((rd_T72 x12 x14).f2) ((rd_T72 x12 x14).f3)) else (edits_Check.j1 k x1 x2 x7 x8 x14 x12 x13 x14 false ((rd_T72 x12 x14).f0) ((rd_T72 x12 x14).f1) ((rd_T72 x12 x14).f2) ((rd_T72 x12 x14).f3))) else (edits_Check.j1 k x1 x2 x7 x8 x14 x12 x13 x14 true ((rd_T72 x12 x14).f0) ((rd_T72 x12 x14).f1) ((rd_T72 x12 x14).f2) ((rd_T72 x12 x14).f3)))) else (edits_Check.j1 k x1 x2 x7 x8 x14 x12 x13 x14 true ((rd_T72 x12 x14).f0) ((rd_T72 x12 x14).f1) ((rd_T72 x12 x14).f2) ((rd_T72 x12 x14).f3)))) else (edits_Check.j1 k x1 x2 x7 x8 x14 x12 x13 x14 true ((rd_T72 x12 x14).f0) ((rd_T72 x12 x14).f1) ((rd_T72 x12 x14).f2) ((rd_T72 x12 x14).f3)))) else (edits_Check.j1 k x1 x2 x7 x8 x14 x12 x13 x14 true ((rd_T72 x12 x14).f0) ((rd_T72 x12 x14).f1) ((rd_T72 x12 x14).f2) ((rd_T72 x12 x14).f3)))) else (none)) else (none)) else (if x7 > x1 then (some 50) else (if x8 > x2 then (some 50) else (if (wrap64 (x1 - x7)) = (wrap64 (x2 - x8)) then (some 0) else (some 50))))
def edits_Check.j1 : Nat → Int → Int → Int → Int → Int → List (S72) → Int → Int → Bool → Int → Int → Int → Int → Option (Int)
  | 0, _, _, _, _, _, _, _, _, _, _, _, _, _ => none
  | k + 1, x1, x2, x7, x8, x9, x12, x13, x14, x50, x130000, x130001, x130002, x130003 => if x50 = true then (some 50) else (if (wrap64 (x130000 - x7)) < 0 then (some 50) else (if x9 > 0 then (if (wrap64 (x130000 - x7)) = 0 then (some 50) else (if (wrap64 (x130000 - x7)) = (wrap64 (x130002 - x8)) then (edits_Check.l0 k x1 x2 (wrap64 (x130000 + x130001)) (wrap64 (x130002 + x130003)) x12 x13 (wrap64 (x14 + 1))) else (some 50))) else (if (wrap64 (x130000 - x7)) = (wrap64 (x130002 - x8)) then (edits_Check.l0 k x1 x2 (wrap64 (x130000 + x130001)) (wrap64 (x130002 + x130003)) x12 x13 (wrap64 (x14 + 1))) else (some 50))))
end
def edits_Check.f (k : Nat) (l0 : List (S72)) (a1 : Int) (a2 : Int) : Option (Int) := edits_Check.l0 k a1 a2 0 0 l0 (l0.length : Int) 0
end Go.Proofs.YtchhelmilbheoaaDoor.X
