import Derived.Test.YtglffceopijogaaDoorZPXx0
import Derived.Test.YtglffceopijogaaDoorZPXx20
import Derived.Test.YtglffceopijogaaDoorZPXx48
import Derived.Test.YtglffceopijogaaDoorZPXx50
import Derived.Test.YtglffceopijogaaDoorZPXx56
namespace Go.Proofs.YtglffceopijogaaDoor.X
open Go.RowKit Go.Proofs.YtglffceopijogaaDoorW.PrintWords Go.Proofs.YtglffceopijogaaDoorW.PrintLast Go.Proofs.YtglffceopijogaaDoorW.PrintMore
attribute [local go_sem] max2_int min2_int max_two min_two max_three min_three max_four min_four   -- for this text's walks alone
open Go.Proofs.YtglffceopijogaaDoorW.HandWords
set_option linter.unusedVariables false
set_option linter.unusedSimpArgs false
def redlinelaw03_CanonLines.f (k : Nat) (a0 : ByteArray) (a1_0 : Bool) (a1_1 : Bool) (a1_2 : Bool) (a1_3 : Bool) (a1_4 : Bool) (a1_5 : Bool) : Option (Bool) := (canon_Canon.f a0 a1_0 a1_1 a1_2 a1_3 a1_4 a1_5).bind fun t162 => ((redlineref03_Canon.f k a0 a1_0 a1_1 a1_2 a1_3 a1_4 a1_5).bind fun t163 => (if t162.toList = t163.toList then ((canon_Expand.f a0).bind fun t164 => ((redlineref03_Expand.f k a0).bind fun t165 => (some (t164.toList == t165.toList)))) else (some false)))
def redlinelaw03_CanonLines.T1 : Bool × List (List Nat × List Nat) := (true, [([], []), ([], []), ([0, 1], [0, 1]), ([], []), ([], []), ([3, 4, 2], [3, 4]), ([2, 5], [2, 5]), ([6, 5], [6]), ([7], [7]), ([8, 7, 7], [7, 8]), ([7], [7]), ([10, 9, 7], [7, 10]), ([9, 11, 7], [7, 9, 11]), ([7, 12], [7, 12]), ([13, 11, 0, 1, 2, 3, 4, 5, 6, 7, 8, 9, 10, 11, 12, 13], [13])])
def redlinelaw03_CanonLines.B1 : List Nat := [0, 0, 3, 0, 0, 31, 63, 127, 255, 511, 255, 2047, 4095, 8191, 16383]
end Go.Proofs.YtglffceopijogaaDoor.X
