import Derived.Test.YtglffceopijogaaDoorZPXx0
import Derived.Test.YtglffceopijogaaDoorZPXx50
import Derived.Test.YtglffceopijogaaDoorZPXx52
import Derived.Test.YtglffceopijogaaDoorZPXx53
import Derived.Test.YtglffceopijogaaDoorZPXx54
namespace Go.Proofs.YtglffceopijogaaDoor.X
open Go.RowKit Go.Proofs.YtglffceopijogaaDoorW.PrintWords Go.Proofs.YtglffceopijogaaDoorW.PrintLast Go.Proofs.YtglffceopijogaaDoorW.PrintMore
attribute [local go_sem] max2_int min2_int max_two min_two max_three min_three max_four min_four   -- for this text's walks alone
open Go.Proofs.YtglffceopijogaaDoorW.HandWords
set_option linter.unusedVariables false
set_option linter.unusedSimpArgs false
mutual
def redlineref03_text.j0 : Nat → ByteArray → Bool → Bool → Bool → Bool → Bool → Bool → Option (ByteArray)
  | 0, _, _, _, _, _, _, _ => none
  | k + 1, x0, x149000, x149001, x149002, x149003, x149004, x149005 => if x149001 = true then ((redlineref03_without.f k x0 false).bind fun t150 => (redlineref03_text.j1 k t150 x149000 x149001 x149002 x149003 x149004 x149005)) else (redlineref03_text.j1 k x0 x149000 x149001 x149002 x149003 x149004 x149005)
def redlineref03_text.j1 : Nat → ByteArray → Bool → Bool → Bool → Bool → Bool → Bool → Option (ByteArray)
  | 0, _, _, _, _, _, _, _ => none
  | k + 1, x0, x149000, x149001, x149002, x149003, x149004, x149005 => if x149000 = true then ((redlineref03_without.f k x0 true).bind fun t151 => ((redlineref03_trail.f k t151).bind fun t152 => (redlineref03_text.j2 k t152 x149000 x149001 x149002 x149003 x149004 x149005))) else (redlineref03_text.j2 k x0 x149000 x149001 x149002 x149003 x149004 x149005)
def redlineref03_text.j2 : Nat → ByteArray → Bool → Bool → Bool → Bool → Bool → Bool → Option (ByteArray)
  | 0, _, _, _, _, _, _, _ => none
  | k + 1, x0, x149000, x149001, x149002, x149003, x149004, x149005 => if x149005 = true then ((redlineref03_trail.f k x0).bind fun t153 => (if x149003 = true then ((redlineref03_small.f k t153).bind fun t154 => (some t154)) else (some t153))) else (if x149003 = true then ((redlineref03_small.f k x0).bind fun t155 => (some t155)) else (some x0))
end
def redlineref03_text.f (k : Nat) (a0 : ByteArray) (a1_0 : Bool) (a1_1 : Bool) (a1_2 : Bool) (a1_3 : Bool) (a1_4 : Bool) (a1_5 : Bool) : Option (ByteArray) := if a1_4 = true then ((redlineref03_Expand.f k a0).bind fun t149 => (redlineref03_text.j0 k t149 a1_0 a1_1 a1_2 a1_3 a1_4 a1_5)) else (redlineref03_text.j0 k a0 a1_0 a1_1 a1_2 a1_3 a1_4 a1_5)
end Go.Proofs.YtglffceopijogaaDoor.X
