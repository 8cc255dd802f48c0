import Derived.Test.YtglffceopijogaaDoorZPXx0
import Derived.Test.YtglffceopijogaaDoorZPXx69
import Derived.Test.YtglffceopijogaaDoorZPXx72
import Derived.Test.YtglffceopijogaaDoorZPXx73
import Derived.Test.YtglffceopijogaaDoorZPXx74
namespace Go.Proofs.YtglffceopijogaaDoor.X
open Go.RowKit Go.Proofs.YtglffceopijogaaDoorW.PrintWords Go.Proofs.YtglffceopijogaaDoorW.PrintLast Go.Proofs.YtglffceopijogaaDoorW.PrintMore
attribute [local go_sem] max2_int min2_int max_two min_two max_three min_three max_four min_four   -- for this text's walks alone
open Go.Proofs.YtglffceopijogaaDoorW.HandWords
set_option linter.unusedVariables false
set_option linter.unusedSimpArgs false
def redlinelaw04_InternClasses.j0 : Nat → List ByteArray → List ByteArray → Bool → Bool → Bool → Bool → Bool → Bool → Bool → Option (Bool)
  | 0, _, _, _, _, _, _, _, _, _ => none
  | k + 1, x0, x1, x22, x209000, x209001, x209002, x209003, x209004, x209005 => if x22 = true then (some true) else ((some (([] : List ByteArray) : List ByteArray)).bind fun y209 => (if y209.length + x0.length < 8796093022208 then ((some (y209 ++ x0 : List ByteArray)).bind fun y212 => ((some (([] : List ByteArray) : List ByteArray)).bind fun y215 => (if y215.length + x1.length < 8796093022208 then ((some (y215 ++ x1 : List ByteArray)).bind fun y218 => ((intern_Classes.f y212 y218 x209000 x209001 x209002 x209003 x209004 x209005).bind fun bt221 => ((redlineref04_Classes.f k x0 x1 x209000 x209001 x209002 x209003 x209004 x209005).bind fun bt228 => ((redlineref04_SameInts.f k bt221.1 bt228.1).bind fun t235 => (if t235 = true then ((redlineref04_SameInts.f k bt221.2.1 bt228.2.1).bind fun t236 => (if t236 = true then (if bt221.2.2 = bt228.2.2 then ((redlineref01_SameStrings.f k x0 y212).bind fun t237 => (if t237 = true then ((redlineref01_SameStrings.f k x1 y218).bind fun t238 => (some t238)) else (some false))) else (some false)) else (some false))) else (some false)))))) else (none)))) else (none)))
def redlinelaw04_InternClasses.f (k : Nat) (l0 : List ByteArray) (l1 : List ByteArray) (a2_0 : Bool) (a2_1 : Bool) (a2_2 : Bool) (a2_3 : Bool) (a2_4 : Bool) (a2_5 : Bool) : Option (Bool) := if (l0.length : Int) > 300 then (redlinelaw04_InternClasses.j0 k l0 l1 true a2_0 a2_1 a2_2 a2_3 a2_4 a2_5) else (redlinelaw04_InternClasses.j0 k l0 l1 (decide ((l1.length : Int) > 300)) a2_0 a2_1 a2_2 a2_3 a2_4 a2_5)
end Go.Proofs.YtglffceopijogaaDoor.X
