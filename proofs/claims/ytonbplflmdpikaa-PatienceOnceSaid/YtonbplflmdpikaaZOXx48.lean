import Derived.Test.YtonbplflmdpikaaZOXx0
import Derived.Test.YtonbplflmdpikaaZOXx23
import Derived.Test.YtonbplflmdpikaaZOXx24
import Derived.Test.YtonbplflmdpikaaZOXx25
import Derived.Test.YtonbplflmdpikaaZOXx26
namespace Go.Proofs.Ytonbplflmdpikaa.X
open Go.RowKit Go.Proofs.YtonbplflmdpikaaW.PrintWords Go.Proofs.YtonbplflmdpikaaW.PrintLast Go.Proofs.YtonbplflmdpikaaW.PrintMore
attribute [local go_sem] max2_int min2_int max_two min_two max_three min_three max_four min_four   -- for this text's walks alone
open Go.Proofs.YtonbplflmdpikaaW.HandWords
set_option linter.unusedVariables false
set_option linter.unusedSimpArgs false
def minimal_Length.f (k : Nat) (l0 : List Int) (l1 : List Int) : Option (Int × Int) := (minimal_long.f l0 l1).bind fun t448 => (if t448 = true then (some (0, 9)) else ((minimal_front.f k l0 l1).bind fun t449 => (if 0 ≤ t449 then (if t449 ≤ (l0.length : Int) then (if t449 ≤ (l1.length : Int) then ((minimal_of.f (l0.drop (t449 : Int).toNat) (l1.drop (t449 : Int).toNat)).bind fun bt452 => ((minimal_lengths_at.f bt452.1 bt452.2 0 0).bind fun t456 => (some (wrap64 (t449 + (wrap64 (t456))), 0)))) else (none)) else (none)) else (none))))
def minimal_Length.T4 : Bool × List (List Nat × List Nat) := (true, [([], []), ([], []), ([], []), ([1, 2], [1, 2]), ([], []), ([], []), ([4, 5], [4, 5]), ([3, 6], [3, 6]), ([7, 7], [7]), ([8], [8]), ([0, 9], [0, 9]), ([10, 8, 0, 1, 2, 3, 4, 5, 6, 7, 8, 9, 10], [10]), ([11, 0, 1, 2, 3, 4, 5, 6, 7, 8, 9, 10, 11], [])])
def minimal_Length.B4 : List Nat := [0, 0, 0, 6, 0, 0, 48, 126, 254, 510, 1023, 2047, 4095]
end Go.Proofs.Ytonbplflmdpikaa.X
