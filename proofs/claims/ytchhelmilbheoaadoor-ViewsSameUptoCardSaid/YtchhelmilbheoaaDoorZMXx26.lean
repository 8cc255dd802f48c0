import Derived.Test.YtchhelmilbheoaaDoorZMXx0
import Derived.Test.YtchhelmilbheoaaDoorZMXx25
namespace Go.Proofs.YtchhelmilbheoaaDoor.X
open Go.RowKit Go.Proofs.YtchhelmilbheoaaDoorW.PrintWords Go.Proofs.YtchhelmilbheoaaDoorW.PrintLast Go.Proofs.YtchhelmilbheoaaDoorW.PrintMore
attribute [local go_sem] max2_int min2_int max_two min_two max_three min_three max_four min_four   -- for this text's walks alone
open Go.Proofs.YtchhelmilbheoaaDoorW.HandWords
set_option linter.unusedVariables false
set_option linter.unusedSimpArgs false
mutual
def redlineref17_Name.j0 : Nat → ByteArray → Bool → Option (Bool)
  | 0, _, _ => none
  | k + 1, x0, x11 => if x11 = true then (some false) else (redlineref17_Name.l0 k x0 0)
def redlineref17_Name.l0 : Nat → ByteArray → Int → Option (Bool)
  | 0, _, _ => none
  | k + 1, x0, x3 => if x3 < (x0.size : Int) then (if 0 ≤ x3 then ((redlineref17_letter.f (bt x0 x3)).bind fun t104 => (if t104 = true then (redlineref17_Name.l0 k x0 (wrap64 (x3 + 1))) else (if x3 = 0 then (some false) else (if (bt x0 x3) < 48 then (some false) else (if (bt x0 x3) > 57 then (some false) else (redlineref17_Name.l0 k x0 (wrap64 (x3 + 1)))))))) else (none)) else (some true)
end
def redlineref17_Name.f (k : Nat) (a0 : ByteArray) : Option (Bool) := if (a0.size : Int) = 0 then (redlineref17_Name.j0 k a0 true) else (redlineref17_Name.j0 k a0 (decide ((a0.size : Int) > 64)))
end Go.Proofs.YtchhelmilbheoaaDoor.X
