import Derived.Test.YtglffceopijogaaDoorZPXx0
import Derived.Test.YtglffceopijogaaDoorZPXx58
import Derived.Test.YtglffceopijogaaDoorZPXx59
import Derived.Test.YtglffceopijogaaDoorZPXx60
import Derived.Test.YtglffceopijogaaDoorZPXx61
namespace Go.Proofs.YtglffceopijogaaDoor.X
open Go.RowKit Go.Proofs.YtglffceopijogaaDoorW.PrintWords Go.Proofs.YtglffceopijogaaDoorW.PrintLast Go.Proofs.YtglffceopijogaaDoorW.PrintMore
attribute [local go_sem] max2_int min2_int max_two min_two max_three min_three max_four min_four   -- for this text's walks alone
open Go.Proofs.YtglffceopijogaaDoorW.HandWords
set_option linter.unusedVariables false
set_option linter.unusedSimpArgs false
def redlinelaw03_CanonTells.f (k : Nat) (a0 : ByteArray) (a1 : ByteArray) (a2_0 : Bool) (a2_1 : Bool) (a2_2 : Bool) (a2_3 : Bool) (a2_4 : Bool) (a2_5 : Bool) : Option (Bool) := (canon_Equal.f a0 a1 a2_0 a2_1 a2_2 a2_3 a2_4 a2_5).bind fun t181 => ((redlineref03_Equal.f k a0 a1 a2_0 a2_1 a2_2 a2_3 a2_4 a2_5).bind fun t182 => (if (t181 == t182) = true then ((canon_Blank.f a0 a2_0 a2_1 a2_2 a2_3 a2_4 a2_5).bind fun t183 => ((redlineref03_Blank.f k a0 a2_0 a2_1 a2_2 a2_3 a2_4 a2_5).bind fun t184 => (some (t183 == t184)))) else (some false)))
def redlinelaw03_CanonTells.T1 : Bool × List (List Nat × List Nat) := (true, [([], []), ([], []), ([], []), ([0, 1, 2], [0, 1, 2]), ([], []), ([], []), ([], []), ([4, 5, 6, 3], [4, 5, 6]), ([3, 7], [3, 7]), ([8, 7], [8]), ([9], [9]), ([9], [9]), ([10, 11, 9, 9], [9, 10, 11]), ([9], [9]), ([9], [9]), ([13, 14, 12, 9], [9, 13, 14]), ([12, 15, 9], [9, 12, 15]), ([9, 16], [9, 16]), ([17, 15, 0, 1, 2, 3, 4, 5, 6, 7, 8, 9, 10, 11, 12, 13, 14, 15, 16, 17], [17])])
def redlinelaw03_CanonTells.B1 : List Nat := [0, 0, 0, 7, 0, 0, 0, 127, 255, 511, 1023, 1023, 4095, 1023, 1023, 32767, 65535, 131071, 262143]
end Go.Proofs.YtglffceopijogaaDoor.X
