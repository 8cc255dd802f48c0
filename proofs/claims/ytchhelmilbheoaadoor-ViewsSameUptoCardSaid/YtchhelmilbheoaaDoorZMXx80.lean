import Derived.Test.YtchhelmilbheoaaDoorZMXx0
import Derived.Test.YtchhelmilbheoaaDoorZMXx79
namespace Go.Proofs.YtchhelmilbheoaaDoor.X
open Go.RowKit Go.Proofs.YtchhelmilbheoaaDoorW.PrintWords Go.Proofs.YtchhelmilbheoaaDoorW.PrintLast Go.Proofs.YtchhelmilbheoaaDoorW.PrintMore
attribute [local go_sem] max2_int min2_int max_two min_two max_three min_three max_four min_four   -- for this text's walks alone
open Go.Proofs.YtchhelmilbheoaaDoorW.HandWords
set_option linter.unusedVariables false
set_option linter.unusedSimpArgs false
mutual
def redlineref17_row.l0 : Nat → ByteArray → ByteArray → Int → ByteArray → Option (ByteArray)
  | 0, _, _, _, _ => none
  | k + 1, x1, x2, x3, x9 => if (x9.size : Int) < x3 then (if x9.size + 1 ≤ 9223372036854775807 then (redlineref17_row.l0 k x1 x2 x3 (x9 ++ (⟨#[32]⟩ : ByteArray))) else (none)) else (if x9.size + 1 ≤ 9223372036854775807 then (if (x9 ++ (⟨#[32]⟩ : ByteArray)).size + x1.size ≤ 9223372036854775807 then (if ((x9 ++ (⟨#[32]⟩ : ByteArray)) ++ x1).size + 1 ≤ 9223372036854775807 then ((redlineref17_shown.f k x2 x3).bind fun t182 => (if (((x9 ++ (⟨#[32]⟩ : ByteArray)) ++ x1) ++ (⟨#[32]⟩ : ByteArray)).size + t182.size ≤ 9223372036854775807 then (redlineref17_row.l1 k ((((x9 ++ (⟨#[32]⟩ : ByteArray)) ++ x1) ++ (⟨#[32]⟩ : ByteArray)) ++ t182)) else (none))) else (none)) else (none)) else (none))
def redlineref17_row.l1 : Nat → ByteArray → Option (ByteArray)
  | 0, _ => none
  | k + 1, x9 => if (x9.size : Int) > 0 then (if 0 ≤ (wrap64 ((x9.size : Int) - 1)) then (if (wrap64 ((x9.size : Int) - 1)) < (x9.size : Int) then (if (bt x9 (wrap64 ((x9.size : Int) - 1))) = 32 then (if (wrap64 ((x9.size : Int) - 1)) ≤ (x9.size : Int) then (redlineref17_row.l1 k (x9.extract 0 ((wrap64 ((x9.size : Int) - 1)) : Int).toNat)) else (none)) else (if x9.size + 1 ≤ 9223372036854775807 then (some (x9 ++ (⟨#[10]⟩ : ByteArray))) else (none))) else (none)) else (none)) else (if x9.size + 1 ≤ 9223372036854775807 then (some (x9 ++ (⟨#[10]⟩ : ByteArray))) else (none))
end
def redlineref17_row.f (k : Nat) (a0 : ByteArray) (a1 : ByteArray) (a2 : ByteArray) (a3 : Int) : Option (ByteArray) := (redlineref17_shown.f k a0 a3).bind fun t181 => (redlineref17_row.l0 k a1 a2 a3 t181)
end Go.Proofs.YtchhelmilbheoaaDoor.X
