-- printed by xprint.py, a program of this session's own over the kit's print
import Derived.Test.YtdcldoembdifpaaZRXx0
import Derived.Test.YtdcldoembdifpaaZRXx14
import Derived.Test.YtdcldoembdifpaaZRXx15
import Derived.Test.YtdcldoembdifpaaZRXx16
import Derived.Test.YtdcldoembdifpaaZRXx17
namespace Go.Proofs.Ytdcldoembdifpaa.X
open Go.RowKit Go.Proofs.YtdcldoembdifpaaW.PrintWords Go.Proofs.YtdcldoembdifpaaW.PrintLast Go.Proofs.YtdcldoembdifpaaW.PrintMore
attribute [local go_sem] max2_int min2_int max_two min_two max_three min_three max_four min_four   -- for this text's walks alone
open Go.Proofs.YtdcldoembdifpaaW.HandWords
set_option linter.unusedVariables false
set_option linter.unusedSimpArgs false
/-! ### minimal_Length: function 21 -/
def minimal_Length.f (k : Nat) (l0 : List Int) (l1 : List Int) : Option (Int × Int) := (minimal_long.f l0 l1).bind fun t194 => (if t194 = true then (some (0, 9)) else ((minimal_front.f k l0 l1).bind fun t195 => (if 0 ≤ t195 then (if t195 ≤ (l0.length : Int) then (if t195 ≤ (l1.length : Int) then ((minimal_of.f (l0.drop (t195 : Int).toNat) (l1.drop (t195 : Int).toNat)).bind fun bt198 => ((minimal_lengths_at.f bt198.1 bt198.2 0 0).bind fun t202 => (some (wrap64 (t195 + (wrap64 (t202))), 0)))) else (none)) else (none)) else (none))))
def minimal_Length.T4 : Bool × List (List Nat × List Nat) := (true, [([], []), ([], []), ([], []), ([1, 2], [1, 2]), ([], []), ([], []), ([4, 5], [4, 5]), ([3, 6], [3, 6]), ([7, 7], [7]), ([8], [8]), ([0, 9], [0, 9]), ([10, 8, 0, 1, 2, 3, 4, 5, 6, 7, 8, 9, 10], [10]), ([11, 0, 1, 2, 3, 4, 5, 6, 7, 8, 9, 10, 11], [])])
def minimal_Length.B4 : List Nat := [0, 0, 0, 6, 0, 0, 48, 126, 254, 510, 1023, 2047, 4095]
end Go.Proofs.Ytdcldoembdifpaa.X
