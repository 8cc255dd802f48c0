import Derived.Test.YtglffceopijogaaDoorZPXx0
import Derived.Test.YtglffceopijogaaDoorZPXx69
import Derived.Test.YtglffceopijogaaDoorZPXx73
import Derived.Test.YtglffceopijogaaDoorZPXx76
namespace Go.Proofs.YtglffceopijogaaDoor.X
open Go.RowKit Go.Proofs.YtglffceopijogaaDoorW.PrintWords Go.Proofs.YtglffceopijogaaDoorW.PrintLast Go.Proofs.YtglffceopijogaaDoorW.PrintMore
attribute [local go_sem] max2_int min2_int max_two min_two max_three min_three max_four min_four   -- for this text's walks alone
open Go.Proofs.YtglffceopijogaaDoorW.HandWords
set_option linter.unusedVariables false
set_option linter.unusedSimpArgs false
def redlinelaw04_InternGrows.j0 : Nat → List ByteArray → List ByteArray → Bool → Bool → Bool → Bool → Bool → Bool → Bool → Option (Bool)
  | 0, _, _, _, _, _, _, _, _, _ => none
  | k + 1, x0, x1, x26, x261000, x261001, x261002, x261003, x261004, x261005 => if x26 = true then (some true) else ((some (([] : List ByteArray) : List ByteArray)).bind fun y262 => (if y262.length + x0.length < 8796093022208 then ((some (y262 ++ x0 : List ByteArray)).bind fun y265 => (if y265.length + x1.length < 8796093022208 then ((some (y265 ++ x1 : List ByteArray)).bind fun y268 => ((intern_Classes.f x0 x1 x261000 x261001 x261002 x261003 x261004 x261005).bind fun bt271 => ((intern_Classes.f y268 ([] : List ByteArray) x261000 x261001 x261002 x261003 x261004 x261005).bind fun bt278 => ((intern_Classes.f y268 y268 x261000 x261001 x261002 x261003 x261004 x261005).bind fun bt285 => (if bt271.2.2 = bt278.2.2 then (if bt271.2.2 = bt285.2.2 then (if (bt278.2.1.length : Int) = 0 then ((some (([] : List Int) : List Int)).bind fun y292 => (if y292.length + bt271.1.length < 17592186044416 then ((some (y292 ++ bt271.1 : List Int)).bind fun y295 => (if y295.length + bt271.2.1.length < 17592186044416 then ((redlineref04_SameInts.f k (y295 ++ bt271.2.1) bt278.1).bind fun t301 => (if t301 = true then ((redlineref04_SameInts.f k bt285.1 bt278.1).bind fun t302 => (if t302 = true then ((redlineref04_SameInts.f k bt285.2.1 bt278.1).bind fun t303 => (some t303)) else (some false))) else (some false))) else (none))) else (none))) else (some false)) else (some false)) else (some false)))))) else (none))) else (none)))
def redlinelaw04_InternGrows.f (k : Nat) (l0 : List ByteArray) (l1 : List ByteArray) (a2_0 : Bool) (a2_1 : Bool) (a2_2 : Bool) (a2_3 : Bool) (a2_4 : Bool) (a2_5 : Bool) : Option (Bool) := (redlinelaw04_works.f k).bind fun t261 => (if t261 = true then (if (l0.length : Int) > 100 then (redlinelaw04_InternGrows.j0 k l0 l1 true a2_0 a2_1 a2_2 a2_3 a2_4 a2_5) else (redlinelaw04_InternGrows.j0 k l0 l1 (decide ((l1.length : Int) > 100)) a2_0 a2_1 a2_2 a2_3 a2_4 a2_5)) else (some false))
end Go.Proofs.YtglffceopijogaaDoor.X
