import Derived.Test.YtmnajajnbmlihaaZCXx0
import Derived.Test.YtmnajajnbmlihaaZCXx32
import Derived.Test.YtmnajajnbmlihaaZCXx33
namespace Go.Proofs.Ytmnajajnbmlihaa.X
open Go.RowKit Go.Proofs.YtmnajajnbmlihaaW.PrintWords Go.Proofs.YtmnajajnbmlihaaW.PrintLast Go.Proofs.YtmnajajnbmlihaaW.PrintMore
attribute [local go_sem] max2_int min2_int max_two min_two max_three min_three max_four min_four   -- for this text's walks alone
open Go.Proofs.YtmnajajnbmlihaaW.HandWords
set_option linter.unusedVariables false
set_option linter.unusedSimpArgs false
mutual
def redlineref11_Changes.l0 : Nat → List (S39) → List (S35) → Int → Option ((List (S35)) × Int)
  | 0, _, _, _ => none
  | k + 1, x0, x5, x6 => if x6 < (x0.length : Int) then (if 0 ≤ x6 then ((redlineref11_At.f ((rd_T39 x0 x6).f0) ((rd_T39 x0 x6).f1) ((rd_T39 x0 x6).f2) ((rd_T39 x0 x6).f3) ((rd_T39 x0 x6).f4)).bind fun bt245 => (redlineref11_Changes.l1 k x0 x5 x6 bt245.1 bt245.2 0)) else (none)) else (some (x5, 0))
def redlineref11_Changes.l1 : Nat → List (S39) → List (S35) → Int → Int → Int → Int → Option ((List (S35)) × Int)
  | 0, _, _, _, _, _, _ => none
  | k + 1, x0, x5, x6, x7, x8, x9 => if 0 ≤ x6 then (if x6 < (x0.length : Int) then (if x9 < (((rd_T39 x0 x6).f4).length : Int) then (if 0 ≤ x9 then (if ((rd_T46 ((rd_T39 x0 x6).f4) x9).f0) = 32 then (redlineref11_Changes.l1 k x0 x5 x6 (wrap64 (x7 + 1)) (wrap64 (x8 + 1)) (wrap64 (x9 + 1))) else (if (wrap64 ((x5.length : Int) - 1)) < 0 then (redlineref11_Changes.j2 k x0 x5 x6 x7 x8 x9 ((rd_T46 ((rd_T39 x0 x6).f4) x9).f0) (wrap64 ((x5.length : Int) - 1)) true) else (if 0 ≤ (wrap64 ((x5.length : Int) - 1)) then (if (wrap64 ((x5.length : Int) - 1)) < (x5.length : Int) then (if (wrap64 (((rd_T35 x5 (wrap64 ((x5.length : Int) - 1))).f0) + ((rd_T35 x5 (wrap64 ((x5.length : Int) - 1))).f1))) = x7 then (redlineref11_Changes.j2 k x0 x5 x6 x7 x8 x9 ((rd_T46 ((rd_T39 x0 x6).f4) x9).f0) (wrap64 ((x5.length : Int) - 1)) ((wrap64 (((rd_T35 x5 (wrap64 ((x5.length : Int) - 1))).f2) + ((rd_T35 x5 (wrap64 ((x5.length : Int) - 1))).f3))) != x8)) else (redlineref11_Changes.j2 k x0 x5 x6 x7 x8 x9 ((rd_T46 ((rd_T39 x0 x6).f4) x9).f0) (wrap64 ((x5.length : Int) - 1)) true)) else (none)) else (none)))) else (none)) else (redlineref11_Changes.l0 k x0 x5 (wrap64 (x6 + 1)))) else (none)) else (none)
def redlineref11_Changes.j2 : Nat → List (S39) → List (S35) → Int → Int → Int → Int → Int → Int → Bool → Option ((List (S35)) × Int)
  | 0, _, _, _, _, _, _, _, _, _ => none
  | k + 1, x0, x5, x6, x7, x8, x9, x10, x11, x90 => if x90 = true then (if x5.length < 4398046511104 then ((some (x5 ++ [(⟨x7, 0, x8, 0⟩ : S35)] : List (S35))).bind fun y254 => (if x10 = 45 then (if 0 ≤ (wrap64 (x11 + 1)) then (if (wrap64 (x11 + 1)) < (y254.length : Int) then (redlineref11_Changes.l1 k x0 (y254.set ((wrap64 (x11 + 1)) : Int).toNat (⟨(rd_T35 y254 (wrap64 (x11 + 1))).f0, wrap64 (((rd_T35 y254 (wrap64 (x11 + 1))).f1) + 1), (rd_T35 y254 (wrap64 (x11 + 1))).f2, (rd_T35 y254 (wrap64 (x11 + 1))).f3⟩ : S35)) x6 (wrap64 (x7 + 1)) x8 (wrap64 (x9 + 1))) else (none)) else (none)) else (if 0 ≤ (wrap64 (x11 + 1)) then (if (wrap64 (x11 + 1)) < (y254.length : Int) then (redlineref11_Changes.l1 k x0 (y254.set ((wrap64 (x11 + 1)) : Int).toNat (⟨(rd_T35 y254 (wrap64 (x11 + 1))).f0, (rd_T35 y254 (wrap64 (x11 + 1))).f1, (rd_T35 y254 (wrap64 (x11 + 1))).f2, wrap64 (((rd_T35 y254 (wrap64 (x11 + 1))).f3) + 1)⟩ : S35)) x6 x7 (wrap64 (x8 + 1)) (wrap64 (x9 + 1))) else (none)) else (none)))) else (none)) else (if x10 = 45 then (if 0 ≤ x11 then (if x11 < (x5.length : Int) then (redlineref11_Changes.l1 k x0 (x5.set (x11 : Int).toNat (⟨(rd_T35 x5 x11).f0, wrap64 (((rd_T35 x5 x11).f1) + 1), (rd_T35 x5 x11).f2, (rd_T35 x5 x11).f3⟩ : S35)) x6 (wrap64 (x7 + 1)) x8 (wrap64 (x9 + 1))) else (none)) else (none)) else (if 0 ≤ x11 then (if x11 < (x5.length : Int) then (redlineref11_Changes.l1 k x0 (x5.set (x11 : Int).toNat (⟨(rd_T35 x5 x11).f0, (rd_T35 x5 x11).f1, (rd_T35 x5 x11).f2, wrap64 (((rd_T35 x5 x11).f3) + 1)⟩ : S35)) x6 x7 (wrap64 (x8 + 1)) (wrap64 (x9 + 1))) else (none)) else (none)))
end
def redlineref11_Changes.f (k : Nat) (l0 : List (S39)) : Option ((List (S35)) × Int) := (redlineref11_Order.f k l0).bind fun t243 => (if t243 = 0 then (redlineref11_Changes.l0 k l0 ([] : List (S35)) 0) else (some (([] : List (S35)), t243)))
end Go.Proofs.Ytmnajajnbmlihaa.X
