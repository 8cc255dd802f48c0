import Derived.Test.YtglffceopijogaaDoorZCXx0
import Derived.Test.YtglffceopijogaaDoorZCXx69
import Derived.Test.YtglffceopijogaaDoorZCXx73
namespace Go.Proofs.YtglffceopijogaaDoor.X
open Go.RowKit Go.Proofs.YtglffceopijogaaDoorW.PrintWords Go.Proofs.YtglffceopijogaaDoorW.PrintLast Go.Proofs.YtglffceopijogaaDoorW.PrintMore
attribute [local go_sem] max2_int min2_int max_two min_two max_three min_three max_four min_four   -- for this text's walks alone
open Go.Proofs.YtglffceopijogaaDoorW.HandWords
set_option linter.unusedVariables false
set_option linter.unusedSimpArgs false
def redlinelaw04_works.f (k : Nat)  : Option (Bool) := (intern_Classes.f (([(⟨#[65, 10]⟩ : ByteArray), (⟨#[98, 10]⟩ : ByteArray), (⟨#[97, 10]⟩ : ByteArray)] : List ByteArray)) (([(⟨#[98, 10]⟩ : ByteArray), (⟨#[99, 10]⟩ : ByteArray)] : List ByteArray)) false false false true false false).bind fun bt245 => ((redlineref04_SameInts.f k bt245.1 (([0, 1, 0] : List Int))).bind fun t255 => (if t255 = true then ((redlineref04_SameInts.f k bt245.2.1 (([1, 2] : List Int))).bind fun t259 => (if t259 = true then (some (bt245.2.2 == 3)) else (some false))) else (some false)))
end Go.Proofs.YtglffceopijogaaDoor.X
