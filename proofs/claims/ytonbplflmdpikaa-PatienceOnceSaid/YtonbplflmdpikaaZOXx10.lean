import Derived.Test.YtonbplflmdpikaaZOXx0
import Derived.Test.YtonbplflmdpikaaZOXx9
import Derived.Test.YtonbplflmdpikaaZOWA
namespace Go.Proofs.Ytonbplflmdpikaa.X
open Go.RowKit Go.Proofs.YtonbplflmdpikaaW.PrintWords Go.Proofs.YtonbplflmdpikaaW.PrintLast Go.Proofs.YtonbplflmdpikaaW.PrintMore
attribute [local go_sem] max2_int min2_int max_two min_two max_three min_three max_four min_four   -- for this text's walks alone
open Go.Proofs.YtonbplflmdpikaaW.HandWords Go.Proofs.YtonbplflmdpikaaW.HandShort
set_option linter.unusedVariables false
set_option linter.unusedSimpArgs false
mutual
def redlineref07_Longest.l0 : Nat → List (S26) → List Int → Int → Int → Option ((List (S26)))
  | 0, _, _, _, _ => none
  | k + 1, x0, x3, x4, x5 => if x5 ≥ 0 then (if 0 ≤ x5 then (if x5 < (x3.length : Int) then (redlineref07_Longest.l1 k x0 (x3.set (x5 : Int).toNat 1) x4 x5 (wrap64 (x5 + 1))) else (none)) else (none)) else (redlineref07_Longest.l2 k x0 x3 x4 ([] : List (S26)) 0)
def redlineref07_Longest.l1 : Nat → List (S26) → List Int → Int → Int → Int → Option ((List (S26)))
  | 0, _, _, _, _, _ => none
  | k + 1, x0, x3, x4, x5, x6 => if x6 < (x0.length : Int) then (if 0 ≤ x5 then (if x5 < (x0.length : Int) then (if 0 ≤ x6 then ((redlineref07_rises.f ((rd_T26 x0 x5).f0) ((rd_T26 x0 x5).f1) ((rd_T26 x0 x6).f0) ((rd_T26 x0 x6).f1)).bind fun t153 => (if t153 = true then (if x5 < (x3.length : Int) then (if x6 < (x3.length : Int) then (redlineref07_Longest.l1 k x0 (x3.set (x5 : Int).toNat (mx (rd x3 x5) (wrap64 ((rd x3 x6) + 1)))) x4 x5 (wrap64 (x6 + 1))) else (none)) else (none)) else (redlineref07_Longest.l1 k x0 x3 x4 x5 (wrap64 (x6 + 1))))) else (none)) else (none)) else (none)) else (if 0 ≤ x5 then (if x5 < (x3.length : Int) then (redlineref07_Longest.l0 k x0 x3 (mx x4 (rd x3 x5)) (wrap64 (x5 - 1))) else (none)) else (none))
def redlineref07_Longest.l2 : Nat → List (S26) → List Int → Int → List (S26) → Int → Option ((List (S26)))
  | 0, _, _, _, _, _ => none
  | k + 1, x0, x3, x4, x7, x8 => if x8 < (x0.length : Int) then (redlineref07_Longest.j3 k x0 x3 x4 x7 x8 (decide (x4 > 0))) else (redlineref07_Longest.j3 k x0 x3 x4 x7 x8 false)
def redlineref07_Longest.j3 : Nat → List (S26) → List Int → Int → List (S26) → Int → Bool → Option ((List (S26)))
  | 0, _, _, _, _, _, _ => none
  | k + 1, x0, x3, x4, x7, x8, x65 => if x65 = true then (if 0 ≤ x8 then (if x8 < (x3.length : Int) then (if (rd x3 x8) = x4 then (if (x7.length : Int) = 0 then (if x8 < (x0.length : Int) then (if x7.length < 8796093022208 then (redlineref07_Longest.l2 k x0 x3 (wrap64 (x4 - 1)) (x7 ++ [(⟨(rd_T26 x0 x8).f0, (rd_T26 x0 x8).f1⟩ : S26)]) (wrap64 (x8 + 1))) else (none)) else (none)) else (if 0 ≤ (wrap64 ((x7.length : Int) - 1)) then (if (wrap64 ((x7.length : Int) - 1)) < (x7.length : Int) then (if x8 < (x0.length : Int) then ((redlineref07_rises.f ((rd_T26 x7 (wrap64 ((x7.length : Int) - 1))).f0) ((rd_T26 x7 (wrap64 ((x7.length : Int) - 1))).f1) ((rd_T26 x0 x8).f0) ((rd_T26 x0 x8).f1)).bind fun t165 => (if t165 = true then (if x7.length < 8796093022208 then (redlineref07_Longest.l2 k x0 x3 (wrap64 (x4 - 1)) (x7 ++ [(⟨(rd_T26 x0 x8).f0, (rd_T26 x0 x8).f1⟩ : S26)]) (wrap64 (x8 + 1))) else (none)) else (redlineref07_Longest.l2 k x0 x3 x4 x7 (wrap64 (x8 + 1))))) else (none)) else (none)) else (none))) else (redlineref07_Longest.l2 k x0 x3 x4 x7 (wrap64 (x8 + 1)))) else (none)) else (none)) else (some x7)
end
def redlineref07_Longest.f (k : Nat) (l0 : List (S26)) : Option ((List (S26))) := if 0 ≤ (l0.length : Int) then (if ((l0.length : Int) : Int).toNat ≤ 35184372088832 then (redlineref07_Longest.l0 k l0 (List.replicate ((l0.length : Int) : Int).toNat 0) 0 (wrap64 ((l0.length : Int) - 1))) else (none)) else (none)
def redlineref07_Longest.T10 : Bool × List (List Nat × List Nat) := (true, [([], []), ([], []), ([0, 1], [0, 1]), ([2], [2]), ([], []), ([], []), ([4, 5], [4, 5]), ([6], [6]), ([3, 7], [3, 7])])
def redlineref07_Longest.B10 : List Nat := [0, 0, 3, 7, 0, 0, 48, 112, 255]
def redlineref07_Longest.T11 : Bool × List (List Nat × List Nat) := (true, [([], []), ([], []), ([], []), ([], []), ([2, 3], [2, 3]), ([4], [4]), ([], []), ([], []), ([6, 7], [6, 7]), ([8], [8]), ([9], [9]), ([5, 10], [5, 10]), ([0, 1, 0, 1, 2, 3, 4, 5, 6, 7, 8, 9, 10, 11], [0, 1]), ([12, 11, 0, 1, 2, 3, 4, 5, 6, 7, 8, 9, 10, 11], [11, 12])])
def redlineref07_Longest.B11 : List Nat := [0, 0, 0, 0, 12, 28, 0, 0, 192, 448, 960, 2044, 4095, 8191]
def redlineref07_Longest.T17 : Bool × List (List Nat × List Nat) := (true, [([], []), ([], []), ([0, 1], [0, 1]), ([2], [2]), ([], []), ([3, 4], [3, 4]), ([5], [5]), ([6], [6]), ([7, 6], [6, 7]), ([8, 6], [6, 8]), ([9, 6, 6], [6, 9]), ([10], [10]), ([10], [10]), ([12, 10], [10, 12]), ([13, 10], [10, 13]), ([11, 14, 10], [10, 11, 14]), ([15, 10], [10, 15]), ([10], [10]), ([10], [10]), ([17, 18, 10], [10, 17, 18]), ([19, 10], [10, 19]), ([16, 20, 10, 10], [10, 16, 20]), ([10, 21, 6], [6, 10, 21]), ([6, 22], [6, 22])])
def redlineref07_Longest.B17 : List Nat := [0, 0, 3, 7, 0, 31, 63, 127, 255, 511, 1023, 2047, 2047, 6143, 14335, 32767, 65535, 2047, 2047, 395263, 919551, 2097151, 4194303, 8388607]
def redlineref07_Longest.aa_0 : Array Bool := #[true, false, false, false, false, false, false, false, false, false, false, false, false, false, false, false, false, false, false, false, false, false, false, false]
def redlineref07_Longest.aa_1 : Array Bool := #[true, true, false, false, false, false, false, false, false, false, false, false, false, false, false, false, false, false, false, false, false, false, false, false]
def redlineref07_Longest.aa_2 : Array Bool := #[true, true, true, false, false, false, false, false, false, false, false, false, false, false, false, false, false, false, false, false, false, false, false, false]
def redlineref07_Longest.aa_3 : Array Bool := #[true, true, true, false, true, false, false, false, false, false, false, false, false, false, false, false, false, false, false, false, false, false, false, false]
def redlineref07_Longest.aa_4 : Array Bool := #[true, true, true, true, true, false, false, false, false, false, false, false, false, false, false, false, false, false, false, false, false, false, false, false]
def redlineref07_Longest.aa_5 : Array Bool := #[true, true, true, true, true, true, false, false, false, false, false, false, false, false, false, false, false, false, false, false, false, false, false, false]
def redlineref07_Longest.aa_6 : Array Bool := #[true, true, true, true, true, true, true, false, false, false, false, false, false, false, false, false, false, false, false, false, false, false, false, false]
def redlineref07_Longest.aa_7 : Array Bool := #[true, true, true, true, true, true, true, true, false, false, false, false, false, false, false, false, false, false, false, false, false, false, false, false]
def redlineref07_Longest.aa_8 : Array Bool := #[true, true, true, true, true, true, true, true, true, false, false, false, false, false, false, false, false, false, false, false, false, false, false, false]
def redlineref07_Longest.aa_9 : Array Bool := #[true, true, true, true, true, true, true, true, true, true, false, false, false, false, false, false, false, false, false, false, false, false, false, false]
def redlineref07_Longest.aa_10 : Array Bool := #[true, true, true, true, true, true, true, true, true, true, true, false, false, false, false, false, false, false, false, false, false, false, false, false]
def redlineref07_Longest.aa_11 : Array Bool := #[true, true, true, true, true, true, true, true, true, true, true, true, false, false, false, false, false, false, false, false, false, false, false, false]
def redlineref07_Longest.aa_12 : Array Bool := #[true, true, true, true, true, true, true, true, true, true, true, true, true, false, false, false, false, false, false, false, false, false, false, false]
def redlineref07_Longest.aa_13 : Array Bool := #[true, true, true, true, true, true, true, true, true, true, true, true, true, true, false, false, false, false, false, false, false, false, false, false]
def redlineref07_Longest.aa_14 : Array Bool := #[true, true, true, true, true, true, true, true, true, true, true, true, true, true, true, false, false, false, false, false, false, false, false, false]
def redlineref07_Longest.aa_15 : Array Bool := #[true, true, true, true, true, true, true, true, true, true, true, true, true, true, true, true, false, false, false, false, false, false, false, false]
def redlineref07_Longest.aa_16 : Array Bool := #[true, true, true, true, true, true, true, true, true, true, true, true, true, true, true, true, true, false, false, false, false, false, false, false]
def redlineref07_Longest.aa_17 : Array Bool := #[true, true, true, true, true, true, true, true, true, true, true, true, true, true, true, true, true, true, false, false, false, false, false, false]
def redlineref07_Longest.aa_18 : Array Bool := #[true, true, true, true, true, true, true, true, true, true, true, true, true, true, true, true, true, true, true, false, false, false, false, false]
def redlineref07_Longest.aa_19 : Array Bool := #[true, true, true, true, true, true, true, true, true, true, true, true, true, true, true, true, true, true, true, true, false, false, false, false]
def redlineref07_Longest.aa_20 : Array Bool := #[true, true, true, true, true, true, true, true, true, true, true, true, true, true, true, true, true, true, true, true, true, false, false, false]
def redlineref07_Longest.aa_21 : Array Bool := #[true, true, true, true, true, true, true, true, true, true, true, true, true, true, true, true, true, true, true, true, true, true, false, false]
def redlineref07_Longest.aa_22 : Array Bool := #[true, true, true, true, true, true, true, true, true, true, true, true, true, true, true, true, true, true, true, true, true, true, true, false]
def redlineref07_Longest.aa_23 : Array Bool := #[true, true, true, true, true, true, true, true, true, true, true, true, true, true, true, true, true, true, true, true, true, true, true, true]
def redlineref07_Longest.aa_24 : Array Bool := #[true, true, true, true, true, true, true, true, true, true, true, true, true, true, true, true, false, true, false, false, false, false, false, false]
def redlineref07_Longest.aa_25 : Array Bool := #[true, true, true, true, true, true, true, true, true, true, true, true, true, true, true, true, false, true, true, false, false, false, false, false]
def redlineref07_Longest.aa_26 : Array Bool := #[true, true, true, true, true, true, true, true, true, true, true, true, true, true, true, true, false, true, true, true, false, false, false, false]
end Go.Proofs.Ytonbplflmdpikaa.X
