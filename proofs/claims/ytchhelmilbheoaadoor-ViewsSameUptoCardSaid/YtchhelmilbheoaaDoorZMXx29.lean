import Derived.Test.YtchhelmilbheoaaDoorZMXx0
import Derived.Test.YtchhelmilbheoaaDoorZMXx26
import Derived.Test.YtchhelmilbheoaaDoorZMXx27
import Derived.Test.YtchhelmilbheoaaDoorZMXx28
namespace Go.Proofs.YtchhelmilbheoaaDoor.X
open Go.RowKit Go.Proofs.YtchhelmilbheoaaDoorW.PrintWords Go.Proofs.YtchhelmilbheoaaDoorW.PrintLast Go.Proofs.YtchhelmilbheoaaDoorW.PrintMore
attribute [local go_sem] max2_int min2_int max_two min_two max_three min_three max_four min_four   -- for this text's walks alone
open Go.Proofs.YtchhelmilbheoaaDoorW.HandWords
set_option linter.unusedVariables false
set_option linter.unusedSimpArgs false
mutual
def redlineref17_Resolve.l0 : Nat → ByteArray → Bool → List ByteArray → ByteArray → Int → Int → Option (ByteArray × Int × Int)
  | 0, _, _, _, _, _, _ => none
  | k + 1, x1, x2, x8, x9, x10, x11 => if x11 < (x8.length : Int) then (if 0 ≤ x11 then ((redlineref17_Command.f (rdOf ByteArray.empty x8 x11) x1).bind fun t117 => (if t117 = 0 then (if x10 = 0 then (if x9.size + (rdOf ByteArray.empty x8 x11).size ≤ 9223372036854775807 then (redlineref17_Resolve.l0 k x1 x2 x8 (x9 ++ (rdOf ByteArray.empty x8 x11)) x10 (wrap64 (x11 + 1))) else (none)) else (if ((x10 == 2) != x2) = true then (if x9.size + (rdOf ByteArray.empty x8 x11).size ≤ 9223372036854775807 then (redlineref17_Resolve.l0 k x1 x2 x8 (x9 ++ (rdOf ByteArray.empty x8 x11)) x10 (wrap64 (x11 + 1))) else (none)) else (redlineref17_Resolve.l0 k x1 x2 x8 x9 x10 (wrap64 (x11 + 1))))) else (if x10 = 0 then (redlineref17_Resolve.j1 k x1 x2 x8 x9 x10 x11 t117 (decide (t117 ≤ 2))) else (redlineref17_Resolve.j1 k x1 x2 x8 x9 x10 x11 t117 false)))) else (none)) else (if x10 = 0 then (some (x9, 0, 0)) else (some ((⟨#[]⟩ : ByteArray), wrap64 ((x8.length : Int) + 1), 1)))
def redlineref17_Resolve.j1 : Nat → ByteArray → Bool → List ByteArray → ByteArray → Int → Int → Int → Bool → Option (ByteArray × Int × Int)
  | 0, _, _, _, _, _, _, _, _ => none
  | k + 1, x1, x2, x8, x9, x10, x11, x12, x51 => if x51 = true then (redlineref17_Resolve.j2 k x1 x2 x8 x9 x10 x11 x12 x51) else (if x10 = 2 then (redlineref17_Resolve.j2 k x1 x2 x8 x9 x10 x11 x12 (x12 == 3)) else (redlineref17_Resolve.j2 k x1 x2 x8 x9 x10 x11 x12 false))
def redlineref17_Resolve.j2 : Nat → ByteArray → Bool → List ByteArray → ByteArray → Int → Int → Int → Bool → Option (ByteArray × Int × Int)
  | 0, _, _, _, _, _, _, _, _ => none
  | k + 1, x1, x2, x8, x9, x10, x11, x12, x51 => if x51 = true then (redlineref17_Resolve.l0 k x1 x2 x8 x9 x12 (wrap64 (x11 + 1))) else (if x10 = 2 then (redlineref17_Resolve.j3 k x1 x2 x8 x9 x10 x11 x12 (x12 == 5)) else (redlineref17_Resolve.j3 k x1 x2 x8 x9 x10 x11 x12 false))
def redlineref17_Resolve.j3 : Nat → ByteArray → Bool → List ByteArray → ByteArray → Int → Int → Int → Bool → Option (ByteArray × Int × Int)
  | 0, _, _, _, _, _, _, _, _ => none
  | k + 1, x1, x2, x8, x9, x10, x11, x12, x65 => if x65 = true then (redlineref17_Resolve.l0 k x1 x2 x8 x9 0 (wrap64 (x11 + 1))) else (if x10 = 1 then (redlineref17_Resolve.j4 k x1 x2 x8 x9 x10 x11 x12 (x12 == 4)) else (redlineref17_Resolve.j4 k x1 x2 x8 x9 x10 x11 x12 false))
def redlineref17_Resolve.j4 : Nat → ByteArray → Bool → List ByteArray → ByteArray → Int → Int → Int → Bool → Option (ByteArray × Int × Int)
  | 0, _, _, _, _, _, _, _, _ => none
  | k + 1, x1, x2, x8, x9, x10, x11, x12, x65 => if x65 = true then (redlineref17_Resolve.l0 k x1 x2 x8 x9 0 (wrap64 (x11 + 1))) else (if x10 = 3 then (if x12 = 4 then (redlineref17_Resolve.l0 k x1 x2 x8 x9 0 (wrap64 (x11 + 1))) else (some ((⟨#[]⟩ : ByteArray), wrap64 (x11 + 1), 121))) else (some ((⟨#[]⟩ : ByteArray), wrap64 (x11 + 1), 121)))
end
def redlineref17_Resolve.f (k : Nat) (a0 : ByteArray) (a1 : ByteArray) (a2 : Bool) : Option (ByteArray × Int × Int) := (redlineref17_Name.f k a1).bind fun t112 => (if t112 = true then ((redlineref02_Split.f k a0).bind fun t113 => (redlineref17_Resolve.l0 k a1 a2 t113 (⟨#[]⟩ : ByteArray) 0 0)) else (some ((⟨#[]⟩ : ByteArray), 0, 253)))
end Go.Proofs.YtchhelmilbheoaaDoor.X
