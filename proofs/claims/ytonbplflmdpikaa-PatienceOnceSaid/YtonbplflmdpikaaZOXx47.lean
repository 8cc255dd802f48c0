import Derived.Test.YtonbplflmdpikaaZOXx0
import Derived.Test.YtonbplflmdpikaaZOXx20
namespace Go.Proofs.Ytonbplflmdpikaa.X
open Go.RowKit Go.Proofs.YtonbplflmdpikaaW.PrintWords Go.Proofs.YtonbplflmdpikaaW.PrintLast Go.Proofs.YtonbplflmdpikaaW.PrintMore
attribute [local go_sem] max2_int min2_int max_two min_two max_three min_three max_four min_four   -- for this text's walks alone
open Go.Proofs.YtonbplflmdpikaaW.HandWords
set_option linter.unusedVariables false
set_option linter.unusedSimpArgs false
mutual
def redlinelaw06_Honest.j0 : Nat → List Int → List Int → List Int → Bool → Option (Int × Bool)
  | 0, _, _, _, _ => none
  | k + 1, x1, x2, x8, x29 => if x29 = true then (some (0, false)) else (redlinelaw06_Honest.l0 k x1 x2 x8 0 0)
def redlinelaw06_Honest.l0 : Nat → List Int → List Int → List Int → Int → Int → Option (Int × Bool)
  | 0, _, _, _, _, _ => none
  | k + 1, x1, x2, x8, x10, x11 => if x11 < (x8.length : Int) then (if 0 ≤ x11 then (if (rd x8 x11) ≥ 0 then (if (rd x8 x11) ≥ (x2.length : Int) then (some (0, false)) else (if x11 < (x1.length : Int) then (if 0 ≤ (rd x8 x11) then (if (rd x8 x11) < (x2.length : Int) then (if (rd x1 x11) = (rd x2 (rd x8 x11)) then (redlinelaw06_Honest.l0 k x1 x2 x8 (wrap64 (x10 + 1)) (wrap64 (x11 + 1))) else (some (0, false))) else (none)) else (none)) else (none))) else (redlinelaw06_Honest.l0 k x1 x2 x8 x10 (wrap64 (x11 + 1)))) else (none)) else (some (x10, true))
end
def redlinelaw06_Honest.f (k : Nat) (l0 : List (S48)) (l1 : List Int) (l2 : List Int) : Option (Int × Bool) := (edits_Keep.f k l0 (l1.length : Int) (l2.length : Int)).bind fun bt439 => (if bt439.2 = 0 then (redlinelaw06_Honest.j0 k l1 l2 bt439.1 ((bt439.1.length : Int) != (l1.length : Int))) else (redlinelaw06_Honest.j0 k l1 l2 bt439.1 true))
end Go.Proofs.Ytonbplflmdpikaa.X
