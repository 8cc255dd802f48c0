/- plain: what histogram keeps is a row of pairs of the same class -/
import Derived.Test.YtdcldoembdifpaaZRQo
import Derived.Test.YtdcldoembdifpaaZRQr
namespace Go.Proofs.Ytdcldoembdifpaa.Q
set_option linter.unusedVariables false
set_option linter.unusedSimpArgs false
open Go.RowKit Go.Proofs.Ytdcldoembdifpaa.X Go.Proofs.Ytdcldoembdifpaa.Q.HB Go.Proofs.YtdcldoembdifpaaW.PrintWords Go.Proofs.YtdcldoembdifpaaW.PrintLast Go.Proofs.YtdcldoembdifpaaW.PrintMore
/-- a piece's part of the answer -/
structure Part (x y : List Int) (a b c d : Nat) (M : List Int) : Prop where
  len : M.length = b - a
  row : Row y (hp_cut x a b) M ((c : Int) - 1)
  last : lastK M ((c : Int) - 1) < d
  none : nn M = 0 → L (hp_cut x a b) (hp_cut y c d) = 0
section
variable (x y : List Int) (hx : x.length ≤ 4096) (hy : y.length ≤ 4096)
include hx hy
/-- what is kept of two texts -/
def PK : List Int := pc x y (x.length + 1) 0 x.length 0 y.length (List.replicate x.length (-1))
end
end Go.Proofs.Ytdcldoembdifpaa.Q
