/- plain: a line as it counts, and the laws CanonLines and CanonTells -/
import Derived.Test.YtglffceopijogaaDoorZPCc
import Derived.Test.YtglffceopijogaaDoorZPXx1
import Derived.Test.YtglffceopijogaaDoorZPXx2
import Derived.Test.YtglffceopijogaaDoorZPXx3
import Derived.Test.YtglffceopijogaaDoorZPXx57
import Derived.Test.YtglffceopijogaaDoorZPXx58
import Derived.Test.YtglffceopijogaaDoorZPXx59
import Derived.Test.YtglffceopijogaaDoorZPXx60
import Derived.Test.YtglffceopijogaaDoorZPXx61
import Derived.Test.YtglffceopijogaaDoorZPXx62
namespace Go.Proofs.YtglffceopijogaaDoor.Q
set_option linter.unusedVariables false
set_option linter.unusedSimpArgs false
open Go.RowKit Go.Proofs.YtglffceopijogaaDoor.X Go.Proofs.YtglffceopijogaaDoorW.PrintWords Go.Proofs.YtglffceopijogaaDoorW.PrintLast Go.Proofs.YtglffceopijogaaDoorW.PrintMore
namespace C3
open Ca (wb wh T wt sq)
def s1 (a4 : Bool) (l : List UInt8) : List UInt8 := if a4 = true then Sb.ex l [] else l
def s2 (a1 : Bool) (l : List UInt8) : List UInt8 := if a1 = true then l.filter (fun b => !wb b) else l
def s3 (a0 : Bool) (l : List UInt8) : List UInt8 := if a0 = true then sq l else l
def s4 (a5 : Bool) (l : List UInt8) : List UInt8 := if a5 = true then T l else l
def s5 (a3 : Bool) (l : List UInt8) : List UInt8 := if a3 = true then l.map Ct.low else l
/-- what of a text counts -/
def txl (a0 a1 a3 a4 a5 : Bool) (l : List UInt8) : List UInt8 := s5 a3 (s4 a5 (s3 a0 (s2 a1 (s1 a4 l))))
theorem ex_len : ∀ (l acc : List UInt8), (Sb.ex l acc).length ≤ acc.length + 8 * l.length
  | [], acc => by rw [Sb.ex]; simp
  | c :: l, acc => by
    rw [Sb.ex, List.length_cons]
    split
    · have h := ex_len l (acc ++ List.replicate (8 - acc.length % 8) 32)
      rw [List.length_append, List.length_replicate] at h
      omega
    · have h := ex_len l (acc ++ [c])
      rw [List.length_append, List.length_singleton] at h
      omega
theorem s1_len (a4 : Bool) (l : List UInt8) : (s1 a4 l).length ≤ 8 * l.length := by
  unfold s1
  split
  · have := ex_len l []; simpa using this
  · omega
theorem s2_len (a1 : Bool) (l : List UInt8) : (s2 a1 l).length ≤ l.length := by
  unfold s2
  split
  · exact List.length_filter_le _ _
  · exact Nat.le_refl _
theorem s3_len (a0 : Bool) (l : List UInt8) : (s3 a0 l).length ≤ l.length := by
  unfold s3
  split
  · exact Ca.sq_le l
  · exact Nat.le_refl _
theorem s4_len (a5 : Bool) (l : List UInt8) : (s4 a5 l).length ≤ l.length := by
  unfold s4
  split
  · exact Ca.T_len l
  · exact Nat.le_refl _
theorem s5_len (a3 : Bool) (l : List UInt8) : (s5 a3 l).length ≤ l.length := by
  unfold s5
  split
  · rw [List.length_map]; exact Nat.le_refl _
  · exact Nat.le_refl _
theorem txl_len (a0 a1 a3 a4 a5 : Bool) (l : List UInt8) : (txl a0 a1 a3 a4 a5 l).length ≤ 8 * l.length :=
  Nat.le_trans (s5_len _ _) (Nat.le_trans (s4_len _ _) (Nat.le_trans (s3_len _ _) (Nat.le_trans (s2_len _ _) (s1_len _ _))))
theorem stp_some (c : Bool) (g : List UInt8 → List UInt8) (l : List UInt8) (hs : l.length ≤ 1000000000) : Ct.stp c g (some (tt l)) = some (tt (if c = true then g l else l)) := by
  unfold Ct.stp
  rw [bsome]
  by_cases h : c = true
  · rw [if_pos h, if_pos h, if_pos (by rw [tt_size]; exact hs)]
  · rw [if_neg h, if_neg h]
theorem text_p (s : ByteArray) (a0 a1 a2 a3 a4 a5 : Bool) (hs : s.size ≤ 10000000) : canon_text.f s a0 a1 a2 a3 a4 a5 = some (tt (txl a0 a1 a3 a4 a5 s.data.toList)) := by
  have hl : s.data.toList.length ≤ 10000000 := by rw [← Lib.size_eq]; exact hs
  have l1 := s1_len a4 s.data.toList
  have l2 := s2_len a1 (s1 a4 s.data.toList)
  have l3 := s3_len a0 (s2 a1 (s1 a4 s.data.toList))
  have l4 := s4_len a5 (s3 a0 (s2 a1 (s1 a4 s.data.toList)))
  unfold canon_text.f
  have e0 : (some s : Option ByteArray) = some (tt s.data.toList) := by rw [tt_self]
  rw [e0]
  show Ct.stp a3 _ (Ct.stp a5 (fun l => Lib.trimRightS l [32, 9, 11, 12, 13]) (Ct.stp a0 sq (Ct.stp a1 _ (Ct.stp a4 _ (some (tt s.data.toList)))))) = _
  rw [stp_some a4 _ _ (by omega)]
  show Ct.stp a3 _ (Ct.stp a5 _ (Ct.stp a0 _ (Ct.stp a1 _ (some (tt (s1 a4 s.data.toList)))))) = _
  rw [stp_some a1 _ _ (by omega)]
  show Ct.stp a3 _ (Ct.stp a5 _ (Ct.stp a0 _ (some (tt (s2 a1 (s1 a4 s.data.toList)))))) = _
  rw [stp_some a0 _ _ (by omega)]
  show Ct.stp a3 _ (Ct.stp a5 _ (some (tt (s3 a0 (s2 a1 (s1 a4 s.data.toList)))))) = _
  rw [stp_some a5 _ _ (by omega), Ca.T_eq]
  show Ct.stp a3 _ (some (tt (s4 a5 (s3 a0 (s2 a1 (s1 a4 s.data.toList)))))) = _
  rw [stp_some a3 _ _ (by omega)]
  rfl
/-- a line without its line feed, and whether it had one -/
def bare (s : ByteArray) : ByteArray × Bool := if 0 < s.size ∧ bt s ((s.size - 1 : Nat) : Int) = 10 then (s.extract 0 (s.size - 1), true) else (s, false)
theorem bare_size (s : ByteArray) : (bare s).1.size ≤ s.size := by
  unfold bare
  split
  · rw [ByteArray.size_extract]; omega
  · exact Nat.le_refl _
theorem suffix (s : ByteArray) (h : 0 < s.size) : (s.extract (s.size - 1) s.size).toList = [10] ↔ bt s ((s.size - 1 : Nat) : Int) = 10 := by
  have hb := bt_get s (s.size - 1) (by omega)
  rw [hb, Lib.extract_toList]
  have hl : s.data.toList.length = s.size := (Lib.size_eq s).symm
  rw [dropU _ (s.size - 1) (by omega), List.drop_eq_nil_of_le (by omega), show s.size - (s.size - 1) = 1 by omega]
  simp only [List.take_succ_cons, List.take_zero, List.cons.injEq, and_true]
  constructor
  · intro e; rw [e]; rfl
  · intro e
    have : (s.data.toList.getD (s.size - 1) 0).toNat = 10 := by omega
    exact UInt8.toNat_inj.1 this
theorem bare_p (s : ByteArray) (hs : s.size ≤ 10000000) : lines_Bare.f s = some (bare s) := by
  unfold lines_Bare.f strings_CutSuffix.f stringslite_CutSuffix.f stringslite_HasSuffix.f bare
  have e1 : ((⟨#[10]⟩ : ByteArray).size : Int) = 1 := rfl
  have e2 : (⟨#[10]⟩ : ByteArray).toList = [10] := by rw [Lib.toList_data]
  rw [e1, e2]
  by_cases h : (s.size : Int) ≥ 1
  · have w1 : wrap64 ((s.size : Int) - 1) = ((s.size - 1 : Nat) : Int) := by rw [w64 _ (by omega)]; omega
    rw [if_pos h, w1, if_pos (show (0 : Int) ≤ ((s.size - 1 : Nat) : Int) by omega), if_pos (show ((s.size - 1 : Nat) : Int) ≤ (s.size : Int) by omega), Int.toNat_natCast, bsome]
    have hx := suffix s (by omega)
    by_cases hb : bt s ((s.size - 1 : Nat) : Int) = 10
    · rw [beq_iff_eq.mpr (hx.2 hb), if_pos rfl, if_pos (show (0 : Int) ≤ ((s.size - 1 : Nat) : Int) by omega), if_pos (show ((s.size - 1 : Nat) : Int) ≤ (s.size : Int) by omega), bsome, bsome, if_pos ⟨by omega, hb⟩]
    · rw [beq_eq_false_iff_ne.mpr (fun e => hb (hx.1 e)), if_neg Bool.false_ne_true, bsome, bsome, if_neg (fun h => hb h.2)]
  · rw [if_neg h, bsome, if_neg Bool.false_ne_true, bsome, bsome, if_neg (fun h2 => by omega)]
/-- a line as it counts -/
def cn (a0 a1 a3 a4 a5 : Bool) (s : ByteArray) : ByteArray := if (bare s).2 = true then tt (txl a0 a1 a3 a4 a5 (bare s).1.data.toList) ++ (⟨#[10]⟩ : ByteArray) else tt (txl a0 a1 a3 a4 a5 (bare s).1.data.toList)
theorem canon_p (s : ByteArray) (a0 a1 a2 a3 a4 a5 : Bool) (hs : s.size ≤ 10000000) : canon_Canon.f s a0 a1 a2 a3 a4 a5 = some (cn a0 a1 a3 a4 a5 s) := by
  unfold canon_Canon.f cn
  have hz := bare_size s
  rw [bare_p s hs, bsome, text_p _ _ _ _ _ _ _ (by omega)]
  have hl := txl_len a0 a1 a3 a4 a5 (bare s).1.data.toList
  rw [← Lib.size_eq] at hl
  by_cases h : (bare s).2 = true
  · rw [if_pos h, if_pos h, bsome, if_pos (by rw [tt_size]; omega)]
  · rw [if_neg h, if_neg h, bsome]
theorem equal_p (a b : ByteArray) (a0 a1 a2 a3 a4 a5 : Bool) (ha : a.size ≤ 10000000) (hb : b.size ≤ 10000000) : canon_Equal.f a b a0 a1 a2 a3 a4 a5 = some ((cn a0 a1 a3 a4 a5 a).toList == (cn a0 a1 a3 a4 a5 b).toList) := by
  unfold canon_Equal.f
  rw [canon_p a _ _ _ _ _ _ ha, canon_p b _ _ _ _ _ _ hb, bsome, bsome]
end C3
end Go.Proofs.YtglffceopijogaaDoor.Q
