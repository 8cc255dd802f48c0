import Derived.Test.YtonbplflmdpikaaZOXx0
import Derived.Test.YtonbplflmdpikaaZOXx33
namespace Go.Proofs.Ytonbplflmdpikaa.X
open Go.RowKit Go.Proofs.YtonbplflmdpikaaW.PrintWords Go.Proofs.YtonbplflmdpikaaW.PrintLast Go.Proofs.YtonbplflmdpikaaW.PrintMore
attribute [local go_sem] max2_int min2_int max_two min_two max_three min_three max_four min_four   -- for this text's walks alone
open Go.Proofs.YtonbplflmdpikaaW.HandWords
set_option linter.unusedVariables false
set_option linter.unusedSimpArgs false
mutual
def redlineref06_Keeps.l0 : Nat → List Int → List Int → List (List Int) → List Int → Int → Int → Option (List Int)
  | 0, _, _, _, _, _, _ => none
  | k + 1, x0, x1, x5, x6, x7, x8 => if x8 < (x0.length : Int) then (if x7 = (x1.length : Int) then (redlineref06_Keeps.j1 k x0 x1 x5 x6 x7 x8 true) else (if 0 ≤ x8 then (if 0 ≤ x7 then (if x7 < (x1.length : Int) then (if (rd x0 x8) = (rd x1 x7) then (redlineref06_Keeps.j1 k x0 x1 x5 x6 x7 x8 false) else (if 0 ≤ (wrap64 (x8 + 1)) then (if (wrap64 (x8 + 1)) < (x5.length : Int) then (if x7 < ((rd_L5 x5 (wrap64 (x8 + 1))).length : Int) then (if x8 < (x5.length : Int) then (if 0 ≤ (wrap64 (x7 + 1)) then (if (wrap64 (x7 + 1)) < ((rd_L5 x5 x8).length : Int) then (redlineref06_Keeps.j1 k x0 x1 x5 x6 x7 x8 (decide ((rd (rd_L5 x5 (wrap64 (x8 + 1))) x7) ≥ (rd (rd_L5 x5 x8) (wrap64 (x7 + 1)))))) else (none)) else (none)) else (none)) else (none)) else (none)) else (none))) else (none)) else (none)) else (none))) else (some x6)
def redlineref06_Keeps.j1 : Nat → List Int → List Int → List (List Int) → List Int → Int → Int → Bool → Option (List Int)
  | 0, _, _, _, _, _, _, _ => none
  | k + 1, x0, x1, x5, x6, x7, x8, x18 => if x18 = true then (if x6.length < 17592186044416 then (redlineref06_Keeps.l0 k x0 x1 x5 (x6 ++ [(-1)]) x7 (wrap64 (x8 + 1))) else (none)) else (if 0 ≤ x8 then (if x8 < (x0.length : Int) then (if 0 ≤ x7 then (if x7 < (x1.length : Int) then (if (rd x0 x8) = (rd x1 x7) then (if x6.length < 17592186044416 then (redlineref06_Keeps.l0 k x0 x1 x5 (x6 ++ [x7]) (wrap64 (x7 + 1)) (wrap64 (x8 + 1))) else (none)) else (redlineref06_Keeps.l0 k x0 x1 x5 x6 (wrap64 (x7 + 1)) x8)) else (none)) else (none)) else (none)) else (none))
end
def redlineref06_Keeps.f (k : Nat) (l0 : List Int) (l1 : List Int) : Option (List Int) := (redlineref06_table.f k l0 l1).bind fun t275 => (redlineref06_Keeps.l0 k l0 l1 t275 ([] : List Int) 0 0)
end Go.Proofs.Ytonbplflmdpikaa.X
