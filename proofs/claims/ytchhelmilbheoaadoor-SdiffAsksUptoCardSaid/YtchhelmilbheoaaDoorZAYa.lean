/- plain: lines without their line feeds, tabs laid out -/
import Derived.Test.YtchhelmilbheoaaDoorZAUa
import Derived.Lib.IndexLaws
import Derived.Lib.SmallJoins
import Derived.Lib.Strings
import Derived.Test.YtchhelmilbheoaaDoorZAXx22
import Derived.Test.YtchhelmilbheoaaDoorZAXx4
import Derived.Test.YtchhelmilbheoaaDoorZAXx48
import Derived.Test.YtchhelmilbheoaaDoorZAXx49
import Derived.Test.YtchhelmilbheoaaDoorZAXx5
import Derived.Test.YtchhelmilbheoaaDoorZAXx6
import Derived.Test.YtchhelmilbheoaaDoorZAXx7
namespace Go.Proofs.YtchhelmilbheoaaDoor.Q
set_option linter.unusedVariables false
set_option linter.unusedSimpArgs false
open Go.RowKit Go.Proofs.YtchhelmilbheoaaDoor.X Go.Proofs.YtchhelmilbheoaaDoorW.PrintWords Go.Proofs.YtchhelmilbheoaaDoorW.PrintLast Go.Proofs.YtchhelmilbheoaaDoorW.PrintMore
namespace H17
abbrev be : ByteArray := ByteArray.empty
theorem rdS_nat (l : List ByteArray) (i : Nat) : rdOf be l (i : Int) = l.getD i be := by
  have h : ∀ j : Int, j = (i : Int) → rdOf be l j = l.getD i be := by
    intro j h
    subst h
    rfl
  exact h _ rfl
theorem getS_mem (l : List ByteArray) (i : Nat) (h : i < l.length) : l.getD i be ∈ l := by
  rw [List.getD_eq_getElem?_getD, List.getElem?_eq_getElem h]
  exact List.getElem_mem h
theorem bytes_eq {a b : ByteArray} (h : a.data.toList = b.data.toList) : a = b := Go.WideShapes.bytes_inj h
theorem dl (l : List UInt8) : (⟨l.toArray⟩ : ByteArray).data.toList = l := rfl
theorem bsz (l : List UInt8) : (⟨l.toArray⟩ : ByteArray).size = l.length := by rw [Lib.size_eq, dl]
theorem bt_ten (s : ByteArray) (i : Nat) (h : i < s.size) : bt s (i : Int) = 10 ↔ s.data.toList[i]? = some 10 := by
  have h1 : bt s (i : Int) = ((s[i]'h).toNat : Int) := (bt_at s (i : Int) (by simpa using h)).symm
  have h2 : s.data.toList[i]? = some (s[i]'h) := by
    rw [Array.getElem?_toList]
    exact Array.getElem?_eq_getElem h
  rw [h1, h2]
  constructor
  · intro e
    have : (s[i]'h).toNat = 10 := by omega
    exact congrArg some (UInt8.toNat_inj.1 this)
  · intro e
    injection e with e
    rw [e]
    rfl
/-- a line without its line feed -/
def bare (s : ByteArray) : ByteArray := if 0 < s.size ∧ bt s ((s.size - 1 : Nat) : Int) = 10 then s.extract 0 (s.size - 1) else s
theorem bare_le (s : ByteArray) : (bare s).size ≤ s.size := by
  unfold bare
  split
  · rw [ByteArray.size_extract]; omega
  · exact Nat.le_refl _
theorem suffix (s : ByteArray) (h : 0 < s.size) : (s.extract (s.size - 1) s.size).toList = [10] ↔ bt s ((s.size - 1 : Nat) : Int) = 10 := by
  rw [bt_ten s (s.size - 1) (by omega), Lib.extract_toList]
  have hl : s.data.toList.length = s.size := (Lib.size_eq s).symm
  have hd : s.data.toList.drop (s.size - 1) = [s.data.toList[s.size - 1]'(by omega)] := by
    rw [List.drop_eq_getElem_cons (by omega), List.drop_eq_nil_of_le (by omega)]
  rw [hd, show s.size - (s.size - 1) = 1 by omega, List.getElem?_eq_getElem (show s.size - 1 < s.data.toList.length by omega)]
  simp
theorem bare_p (s : ByteArray) (hs : s.size ≤ 1000000000000000) : ∃ b, lines_Bare.f s = some (bare s, b) := by
  have hsuf : stringslite_HasSuffix.f s (⟨#[10]⟩ : ByteArray) = some (decide (0 < s.size ∧ bt s ((s.size - 1 : Nat) : Int) = 10)) := by
    unfold stringslite_HasSuffix.f
    have e1 : ((⟨#[10]⟩ : ByteArray).size : Int) = 1 := rfl
    rw [e1]
    by_cases h : (s.size : Int) ≥ 1
    · have w1 : wrap64 ((s.size : Int) - 1) = ((s.size - 1 : Nat) : Int) := by rw [w64 _ (by omega)]; omega
      rw [if_pos h, w1, if_pos (by omega), if_pos (by omega), Int.toNat_natCast]
      have e2 : (⟨#[10]⟩ : ByteArray).toList = [10] := by rw [Lib.toList_data]
      rw [e2]
      have := suffix s (by omega)
      by_cases hb : bt s ((s.size - 1 : Nat) : Int) = 10
      · rw [decide_eq_true (show 0 < s.size ∧ bt s ((s.size - 1 : Nat) : Int) = 10 from ⟨by omega, hb⟩), beq_iff_eq.mpr (this.2 hb)]
      · rw [decide_eq_false (fun e => hb e.2), beq_eq_false_iff_ne.mpr (fun e => hb (this.1 e))]
    · rw [if_neg h, decide_eq_false (fun e => by omega)]
  unfold lines_Bare.f strings_CutSuffix.f stringslite_CutSuffix.f
  rw [hsuf]
  simp only [bsome]
  unfold bare
  by_cases h : 0 < s.size ∧ bt s ((s.size - 1 : Nat) : Int) = 10
  · have e1 : ((⟨#[10]⟩ : ByteArray).size : Int) = 1 := rfl
    have w1 : wrap64 ((s.size : Int) - 1) = ((s.size - 1 : Nat) : Int) := by rw [w64 _ (by omega)]; omega
    rw [decide_eq_true h, if_pos rfl, e1, w1, if_pos (by omega), if_pos (by omega), if_pos h]
    exact ⟨_, rfl⟩
  · rw [decide_eq_false h, if_neg Bool.false_ne_true, if_neg h]
    exact ⟨_, rfl⟩
theorem bare_r (s : ByteArray) (hs : s.size ≤ 1000000000000000) : ∃ b, redlineref02_Bare.f s = some (bare s, b) := by
  unfold redlineref02_Bare.f bare
  by_cases h0 : (s.size : Int) = 0
  · rw [if_pos h0, if_neg (show ¬ (0 < s.size ∧ bt s ((s.size - 1 : Nat) : Int) = 10) by omega)]
    exact ⟨_, rfl⟩
  · have w1 : wrap64 ((s.size : Int) - 1) = ((s.size - 1 : Nat) : Int) := by rw [w64 _ (by omega)]; omega
    rw [if_neg h0, w1, if_pos (by omega), if_pos (by omega)]
    by_cases h : bt s ((s.size - 1 : Nat) : Int) = 10
    · rw [if_pos h, if_pos (by omega), if_pos ⟨by omega, h⟩]
      exact ⟨_, rfl⟩
    · rw [if_neg h, if_neg (fun e => h e.2)]
      exact ⟨_, rfl⟩
end H17
namespace C3
abbrev tt (l : List UInt8) : ByteArray := ⟨l.toArray⟩
abbrev I (b : UInt8) : Int := (b.toNat : Int)
theorem tt_self (s : ByteArray) : tt s.data.toList = s := by cases s; rfl
theorem tt_inj {a b : ByteArray} (h : a.data.toList = b.data.toList) : a = b := by rw [← tt_self a, h, tt_self b]
theorem strOf (l : List UInt8) : strOfNums (l.map I) = tt l := by
  apply tt_inj
  rw [strOfNums_data, List.map_map]
  show List.map _ l = l
  conv => rhs; rw [← List.map_id l]
  apply List.map_congr_left
  intro b _
  show UInt8.ofNat ((b.toNat : Int)).toNat = b
  rw [Int.toNat_natCast, UInt8.ofNat_toNat]
theorem map_snoc (l : List UInt8) (b : UInt8) : l.map I ++ [(b.toNat : Int)] = (l ++ [b]).map I := by simp [I]
theorem bt_get (s : ByteArray) (i : Nat) (h : i < s.size) : bt s (i : Int) = ((s.data.toList.getD i 0).toNat : Int) := by
  have h2 := bt_at s (i : Int) (by simpa using h)
  rw [← h2]
  have h3 : i < s.data.toList.length := by rw [← Lib.size_eq]; exact h
  rw [List.getD_eq_getElem?_getD, List.getElem?_eq_getElem h3]
  rfl
theorem dropU (l : List UInt8) (i : Nat) (h : i < l.length) : l.drop i = l.getD i 0 :: l.drop (i + 1) := by
  rw [List.drop_eq_getElem_cons h, List.getD_eq_getElem?_getD, List.getElem?_eq_getElem h, Option.getD_some]
theorem expand_r (s : ByteArray) (hs : s.size ≤ 1000000000) : Ev (fun k => redlineref03_Expand.f k s) (tt (Sb.ex s.data.toList [])) := by
  have hl : s.data.toList.length = s.size := (Lib.size_eq s).symm
  have inner : ∀ (n : Nat) (acc : List UInt8) (i : Int) (R : ByteArray), (acc.length + n) % 8 = 0 → n < 8 → acc.length + n ≤ 100000000000 → Ev (fun k => redlineref03_Expand.l0 k s ((acc ++ List.replicate n 32).map I) (wrap64 (i + 1))) R → Ev (fun k => redlineref03_Expand.l1 k s (acc.map I) i) R := by
    intro n
    induction n with
    | zero =>
      intro acc i R h1 h2 h3 h
      apply Ev_unfold
      rw [List.replicate_zero, List.append_nil] at h
      simp only [redlineref03_Expand.l1, if_pos (show (((acc.map I).length : Nat) : Int) % 8 = 0 by rw [List.length_map]; omega)]
      exact h
    | succ n ih =>
      intro acc i R h1 h2 h3 h
      apply Ev_unfold
      simp only [redlineref03_Expand.l1, if_neg (show ¬ (((acc.map I).length : Nat) : Int) % 8 = 0 by rw [List.length_map]; omega), if_pos (show (acc.map I).length < 140737488355328 by rw [List.length_map]; omega)]
      have h5 := ih (acc ++ [32]) i R (by rw [List.length_append, List.length_singleton]; omega) (by omega) (by rw [List.length_append, List.length_singleton]; omega) (by
        rw [List.append_assoc, List.singleton_append, ← List.replicate_succ]; exact h)
      rw [← map_snoc] at h5
      exact h5
  have go : ∀ (d i : Nat) (acc : List UInt8), i + d = s.data.toList.length → acc.length ≤ 8 * i → Ev (fun k => redlineref03_Expand.l0 k s (acc.map I) (i : Int)) (tt (Sb.ex (s.data.toList.drop i) acc)) := by
    intro d
    induction d with
    | zero =>
      intro i acc hi ha
      apply Ev_unfold
      rw [List.drop_eq_nil_of_le (by omega), Sb.ex]
      simp only [redlineref03_Expand.l0, if_neg (show ¬ (i : Int) < (s.size : Int) by omega), strOf]
      exact Ev.now _
    | succ d ih =>
      intro i acc hi ha
      apply Ev_unfold
      have o2 : i < 4611686018427387904 := by omega
      have hb := bt_get s i (by omega)
      rw [dropU _ i (by omega), Sb.ex]
      obtain ⟨x, hx⟩ : ∃ x, s.data.toList.getD i 0 = x := ⟨_, rfl⟩
      rw [hx] at hb ⊢
      have hx9 : (x.toNat : Int) = 9 ↔ x = 9 := by
        constructor
        · intro h
          have : x.toNat = 9 := by omega
          exact UInt8.toNat_inj.1 this
        · intro h; subst h; rfl
      by_cases h9 : x = 9
      · simp only [redlineref03_Expand.l0, if_pos (show (i : Int) < (s.size : Int) by omega), if_pos (show (0 : Int) ≤ (i : Int) by omega), hb, if_pos (hx9.2 h9), if_pos (show (acc.map I).length < 140737488355328 by rw [List.length_map]; omega), if_pos h9]
        have h := inner (7 - acc.length % 8) (acc ++ [32]) (i : Int) (tt (Sb.ex (s.data.toList.drop (i + 1)) (acc ++ List.replicate (8 - acc.length % 8) 32))) (by rw [List.length_append, List.length_singleton]; omega) (by omega) (by rw [List.length_append, List.length_singleton]; omega) (by
          rw [List.append_assoc, List.singleton_append, ← List.replicate_succ, show 7 - acc.length % 8 + 1 = 8 - acc.length % 8 by omega, wadd i o2]
          exact ih (i + 1) _ (by omega) (by rw [List.length_append, List.length_replicate]; omega))
        rw [← map_snoc] at h
        exact h
      · simp only [redlineref03_Expand.l0, if_pos (show (i : Int) < (s.size : Int) by omega), if_pos (show (0 : Int) ≤ (i : Int) by omega), hb, if_neg (mt hx9.1 h9), if_pos (show (acc.map I).length < 140737488355328 by rw [List.length_map]; omega), if_neg h9, wadd i o2]
        have h := ih (i + 1) (acc ++ [x]) (by omega) (by rw [List.length_append, List.length_singleton]; omega)
        rw [← map_snoc] at h
        exact h
  exact go s.data.toList.length 0 [] (by omega) (by simp)
end C3
end Go.Proofs.YtchhelmilbheoaaDoor.Q
