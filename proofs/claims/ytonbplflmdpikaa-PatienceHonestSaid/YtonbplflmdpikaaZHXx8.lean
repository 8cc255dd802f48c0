import Derived.Test.YtonbplflmdpikaaZHXx0
import Derived.Test.YtonbplflmdpikaaZHXx7
namespace Go.Proofs.Ytonbplflmdpikaa.X
open Go.RowKit Go.Proofs.YtonbplflmdpikaaW.PrintWords Go.Proofs.YtonbplflmdpikaaW.PrintLast Go.Proofs.YtonbplflmdpikaaW.PrintMore
attribute [local go_sem] max2_int min2_int max_two min_two max_three min_three max_four min_four   -- for this text's walks alone
open Go.Proofs.YtonbplflmdpikaaW.HandWords
set_option linter.unusedVariables false
set_option linter.unusedSimpArgs false
mutual
def redlineref07_Unique.l0 : Nat → List Int → List Int → List (S26) → Int → Option ((List (S26)))
  | 0, _, _, _, _ => none
  | k + 1, x0, x1, x5, x6 => if x6 < (x0.length : Int) then (if 0 ≤ x6 then ((redlineref07_times.f k x0 (rd x0 x6)).bind fun t137 => (if t137 = 1 then ((redlineref07_times.f k x1 (rd x0 x6)).bind fun t139 => (redlineref07_Unique.j1 k x0 x1 x5 x6 (t139 != 1))) else (redlineref07_Unique.j1 k x0 x1 x5 x6 true))) else (none)) else (some x5)
def redlineref07_Unique.j1 : Nat → List Int → List Int → List (S26) → Int → Bool → Option ((List (S26)))
  | 0, _, _, _, _, _ => none
  | k + 1, x0, x1, x5, x6, x29 => if x29 = true then (redlineref07_Unique.l0 k x0 x1 x5 (wrap64 (x6 + 1))) else (redlineref07_Unique.l1 k x0 x1 x5 x6 0)
def redlineref07_Unique.l1 : Nat → List Int → List Int → List (S26) → Int → Int → Option ((List (S26)))
  | 0, _, _, _, _, _ => none
  | k + 1, x0, x1, x5, x6, x7 => if x7 < (x1.length : Int) then (if 0 ≤ x7 then (if 0 ≤ x6 then (if x6 < (x0.length : Int) then (if (rd x1 x7) = (rd x0 x6) then (if x5.length < 8796093022208 then (redlineref07_Unique.l1 k x0 x1 (x5 ++ [(⟨x6, x7⟩ : S26)]) x6 (wrap64 (x7 + 1))) else (none)) else (redlineref07_Unique.l1 k x0 x1 x5 x6 (wrap64 (x7 + 1)))) else (none)) else (none)) else (none)) else (redlineref07_Unique.l0 k x0 x1 x5 (wrap64 (x6 + 1)))
end
def redlineref07_Unique.f (k : Nat) (l0 : List Int) (l1 : List Int) : Option ((List (S26))) := redlineref07_Unique.l0 k l0 l1 ([] : List (S26)) 0
end Go.Proofs.Ytonbplflmdpikaa.X
