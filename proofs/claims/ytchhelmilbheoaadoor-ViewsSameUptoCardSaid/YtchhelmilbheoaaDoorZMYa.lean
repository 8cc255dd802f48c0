/- plain: lines without their line feeds, tabs laid out -/
import Derived.Test.YtchhelmilbheoaaDoorZMUa
import Derived.Lib.IndexLaws
import Derived.Lib.SmallJoins
import Derived.Lib.Strings
import Derived.Test.YtchhelmilbheoaaDoorZMXx42
import Derived.Test.YtchhelmilbheoaaDoorZMXx43
import Derived.Test.YtchhelmilbheoaaDoorZMXx44
import Derived.Test.YtchhelmilbheoaaDoorZMXx45
import Derived.Test.YtchhelmilbheoaaDoorZMXx57
import Derived.Test.YtchhelmilbheoaaDoorZMXx77
import Derived.Test.YtchhelmilbheoaaDoorZMXx78
namespace Go.Proofs.YtchhelmilbheoaaDoor.Q
set_option linter.unusedVariables false
set_option linter.unusedSimpArgs false
open Go.RowKit Go.Proofs.YtchhelmilbheoaaDoor.X Go.Proofs.YtchhelmilbheoaaDoorW.PrintWords Go.Proofs.YtchhelmilbheoaaDoorW.PrintLast Go.Proofs.YtchhelmilbheoaaDoorW.PrintMore
namespace H17
abbrev be : ByteArray := ByteArray.empty
theorem rdS_nat (l : List ByteArray) (i : Nat) : rdOf be l (i : Int) = l.getD i be := by
  have h : ∀ j : Int, j = (i : Int) → rdOf be l j = l.getD i be := by
    intro j h
    subst h
    rfl
  exact h _ rfl
theorem dropS (l : List ByteArray) (i : Nat) (h : i < l.length) : l.drop i = l.getD i be :: l.drop (i + 1) := by
  rw [List.drop_eq_getElem_cons h]; simp [List.getD_eq_getElem?_getD, h]
theorem getS_mem (l : List ByteArray) (i : Nat) (h : i < l.length) : l.getD i be ∈ l := by
  rw [List.getD_eq_getElem?_getD, List.getElem?_eq_getElem h]
  exact List.getElem_mem h
theorem bytes_eq {a b : ByteArray} (h : a.data.toList = b.data.toList) : a = b := Go.WideShapes.bytes_inj h
theorem dl (l : List UInt8) : (⟨l.toArray⟩ : ByteArray).data.toList = l := rfl
theorem bsz (l : List UInt8) : (⟨l.toArray⟩ : ByteArray).size = l.length := by rw [Lib.size_eq, dl]
theorem bt_ten (s : ByteArray) (i : Nat) (h : i < s.size) : bt s (i : Int) = 10 ↔ s.data.toList[i]? = some 10 := by
  have h1 : bt s (i : Int) = ((s[i]'h).toNat : Int) := (bt_at s (i : Int) (by simpa using h)).symm
  have h2 : s.data.toList[i]? = some (s[i]'h) := by
    rw [Array.getElem?_toList]
    exact Array.getElem?_eq_getElem h
  rw [h1, h2]
  constructor
  · intro e
    have : (s[i]'h).toNat = 10 := by omega
    exact congrArg some (UInt8.toNat_inj.1 this)
  · intro e
    injection e with e
    rw [e]
    rfl
/-- a line without its line feed -/
def bare (s : ByteArray) : ByteArray := if 0 < s.size ∧ bt s ((s.size - 1 : Nat) : Int) = 10 then s.extract 0 (s.size - 1) else s
theorem bare_le (s : ByteArray) : (bare s).size ≤ s.size := by
  unfold bare
  split
  · rw [ByteArray.size_extract]; omega
  · exact Nat.le_refl _
theorem suffix (s : ByteArray) (h : 0 < s.size) : (s.extract (s.size - 1) s.size).toList = [10] ↔ bt s ((s.size - 1 : Nat) : Int) = 10 := by
  rw [bt_ten s (s.size - 1) (by omega), Lib.extract_toList]
  have hl : s.data.toList.length = s.size := (Lib.size_eq s).symm
  have hd : s.data.toList.drop (s.size - 1) = [s.data.toList[s.size - 1]'(by omega)] := by
    rw [List.drop_eq_getElem_cons (by omega), List.drop_eq_nil_of_le (by omega)]
  rw [hd, show s.size - (s.size - 1) = 1 by omega, List.getElem?_eq_getElem (show s.size - 1 < s.data.toList.length by omega)]
  simp
theorem bare_p (s : ByteArray) (hs : s.size ≤ 1000000000000000) : ∃ b, lines_Bare.f s = some (bare s, b) := by
  have hsuf : stringslite_HasSuffix.f s (⟨#[10]⟩ : ByteArray) = some (decide (0 < s.size ∧ bt s ((s.size - 1 : Nat) : Int) = 10)) := by
    unfold stringslite_HasSuffix.f
    have e1 : ((⟨#[10]⟩ : ByteArray).size : Int) = 1 := rfl
    rw [e1]
    by_cases h : (s.size : Int) ≥ 1
    · have w1 : wrap64 ((s.size : Int) - 1) = ((s.size - 1 : Nat) : Int) := by rw [w64 _ (by omega)]; omega
      rw [if_pos h, w1, if_pos (by omega), if_pos (by omega), Int.toNat_natCast]
      have e2 : (⟨#[10]⟩ : ByteArray).toList = [10] := by rw [Lib.toList_data]
      rw [e2]
      have := suffix s (by omega)
      by_cases hb : bt s ((s.size - 1 : Nat) : Int) = 10
      · rw [decide_eq_true (show 0 < s.size ∧ bt s ((s.size - 1 : Nat) : Int) = 10 from ⟨by omega, hb⟩), beq_iff_eq.mpr (this.2 hb)]
      · rw [decide_eq_false (fun e => hb e.2), beq_eq_false_iff_ne.mpr (fun e => hb (this.1 e))]
    · rw [if_neg h, decide_eq_false (fun e => by omega)]
  unfold lines_Bare.f strings_CutSuffix.f stringslite_CutSuffix.f
  rw [hsuf]
  simp only [bsome]
  unfold bare
  by_cases h : 0 < s.size ∧ bt s ((s.size - 1 : Nat) : Int) = 10
  · have e1 : ((⟨#[10]⟩ : ByteArray).size : Int) = 1 := rfl
    have w1 : wrap64 ((s.size : Int) - 1) = ((s.size - 1 : Nat) : Int) := by rw [w64 _ (by omega)]; omega
    rw [decide_eq_true h, if_pos rfl, e1, w1, if_pos (by omega), if_pos (by omega), if_pos h]
    exact ⟨_, rfl⟩
  · rw [decide_eq_false h, if_neg Bool.false_ne_true, if_neg h]
    exact ⟨_, rfl⟩
end H17
namespace C3
abbrev tt (l : List UInt8) : ByteArray := ⟨l.toArray⟩
abbrev I (b : UInt8) : Int := (b.toNat : Int)
theorem dropU (l : List UInt8) (i : Nat) (h : i < l.length) : l.drop i = l.getD i 0 :: l.drop (i + 1) := by
  rw [List.drop_eq_getElem_cons h, List.getD_eq_getElem?_getD, List.getElem?_eq_getElem h, Option.getD_some]
end C3
end Go.Proofs.YtchhelmilbheoaaDoor.Q
