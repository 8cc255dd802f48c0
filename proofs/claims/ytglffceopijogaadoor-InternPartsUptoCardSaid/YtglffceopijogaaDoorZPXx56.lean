import Derived.Test.YtglffceopijogaaDoorZPXx0
import Derived.Test.YtglffceopijogaaDoorZPXx49
import Derived.Test.YtglffceopijogaaDoorZPXx55
namespace Go.Proofs.YtglffceopijogaaDoor.X
open Go.RowKit Go.Proofs.YtglffceopijogaaDoorW.PrintWords Go.Proofs.YtglffceopijogaaDoorW.PrintLast Go.Proofs.YtglffceopijogaaDoorW.PrintMore
attribute [local go_sem] max2_int min2_int max_two min_two max_three min_three max_four min_four   -- for this text's walks alone
open Go.Proofs.YtglffceopijogaaDoorW.HandWords
set_option linter.unusedVariables false
set_option linter.unusedSimpArgs false
def redlineref03_Canon.f (k : Nat) (a0 : ByteArray) (a1_0 : Bool) (a1_1 : Bool) (a1_2 : Bool) (a1_3 : Bool) (a1_4 : Bool) (a1_5 : Bool) : Option (ByteArray) := (redlineref02_Bare.f a0).bind fun bt157 => (if bt157.2 = true then ((redlineref03_text.f k bt157.1 a1_0 a1_1 a1_2 a1_3 a1_4 a1_5).bind fun t159 => (if t159.size + 1 ≤ 9223372036854775807 then (some (t159 ++ (⟨#[10]⟩ : ByteArray))) else (none))) else ((redlineref03_text.f k bt157.1 a1_0 a1_1 a1_2 a1_3 a1_4 a1_5).bind fun t160 => (some t160)))
end Go.Proofs.YtglffceopijogaaDoor.X
