/- Honest: how many pairs a script keeps, and whether they are the same. -/
import Derived.Test.YtdcldoembdifpaaZRQh
import Derived.Test.YtdcldoembdifpaaZRXx37
namespace Go.Proofs.Ytdcldoembdifpaa.Q
set_option linter.unusedVariables false
set_option linter.unusedSimpArgs false
open Go.RowKit Go.Proofs.Ytdcldoembdifpaa.X Go.Proofs.YtdcldoembdifpaaW.PrintWords Go.Proofs.YtdcldoembdifpaaW.PrintLast Go.Proofs.YtdcldoembdifpaaW.PrintMore
def nn (keep : List Int) : Nat := (keep.filter fun k => decide (0 ≤ k)).length
/-- all that is kept is the same in both -/
def Hon (x y keep : List Int) : Prop := ∀ i, i < keep.length → 0 ≤ keep.getD i 0 → keep.getD i 0 < (y.length : Int) ∧ x.getD i 0 = y.getD (keep.getD i 0).toNat 0
end Go.Proofs.Ytdcldoembdifpaa.Q
