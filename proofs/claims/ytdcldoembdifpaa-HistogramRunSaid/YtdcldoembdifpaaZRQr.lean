/- plain: rows of pairs of the same class -/
import Derived.Test.YtdcldoembdifpaaZRQa
import Derived.Test.YtdcldoembdifpaaZRQi
namespace Go.Proofs.Ytdcldoembdifpaa.Q
set_option linter.unusedVariables false
set_option linter.unusedSimpArgs false
open Go.RowKit Go.Proofs.Ytdcldoembdifpaa.X Go.Proofs.YtdcldoembdifpaaW.PrintWords Go.Proofs.YtdcldoembdifpaaW.PrintLast Go.Proofs.YtdcldoembdifpaaW.PrintMore
/-- the lines kept rise above last, and are the same in both -/
def Row (y : List Int) : List Int → List Int → Int → Prop
  | [], [], _ => True
  | c :: x, k :: ks, last => if k = -1 then Row y x ks last else last < k ∧ k < (y.length : Int) ∧ c = y.getD k.toNat 0 ∧ Row y x ks k
  | _, _, _ => False
def lastK : List Int → Int → Int
  | [], l => l
  | k :: ks, l => if k = -1 then lastK ks l else lastK ks k
def sh (a : Nat) (v : Int) : Int := if v ≥ 0 then wrap64 ((a : Int) + v) else -1
end Go.Proofs.Ytdcldoembdifpaa.Q
