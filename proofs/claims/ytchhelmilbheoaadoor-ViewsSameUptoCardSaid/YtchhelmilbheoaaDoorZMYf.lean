/- plain: lines.Split and the reference's; names; views.Resolve and the reference's: one answer -/
import Derived.Test.YtchhelmilbheoaaDoorZMQa
import Derived.Lib.SmallJoins
import Derived.Lib.SplitLaws
import Derived.Lib.IndexLaws
import Derived.Lib.Strings
import Derived.Test.YtchhelmilbheoaaDoorZMXx17
import Derived.Test.YtchhelmilbheoaaDoorZMXx18
import Derived.Test.YtchhelmilbheoaaDoorZMXx19
import Derived.Test.YtchhelmilbheoaaDoorZMXx24
import Derived.Test.YtchhelmilbheoaaDoorZMXx25
import Derived.Test.YtchhelmilbheoaaDoorZMXx26
import Derived.Test.YtchhelmilbheoaaDoorZMXx27
import Derived.Test.YtchhelmilbheoaaDoorZMXx28
import Derived.Test.YtchhelmilbheoaaDoorZMXx29
namespace Go.Proofs.YtchhelmilbheoaaDoor.Q
set_option linter.unusedVariables false
set_option linter.unusedSimpArgs false
open Go.RowKit Go.Proofs.YtchhelmilbheoaaDoor.X Go.Proofs.YtchhelmilbheoaaDoorW.PrintWords Go.Proofs.YtchhelmilbheoaaDoorW.PrintLast Go.Proofs.YtchhelmilbheoaaDoorW.PrintMore
namespace H27
abbrev be : ByteArray := ByteArray.empty
theorem rdS_nat (l : List ByteArray) (i : Nat) : rdOf be l (i : Int) = l.getD i be := by
  have h : ∀ j : Int, j = (i : Int) → rdOf be l j = l.getD i be := by
    intro j h
    subst h
    rfl
  exact h _ rfl
theorem dropS (l : List ByteArray) (i : Nat) (h : i < l.length) : l.drop i = l.getD i be :: l.drop (i + 1) := by
  rw [List.drop_eq_getElem_cons h]; simp [List.getD_eq_getElem?_getD, h]
theorem getS_mem (l : List ByteArray) (i : Nat) (h : i < l.length) : l.getD i be ∈ l := by
  rw [List.getD_eq_getElem?_getD, List.getElem?_eq_getElem h]
  exact List.getElem_mem h
theorem bytes_eq {a b : ByteArray} (h : a.data.toList = b.data.toList) : a = b := Go.WideShapes.bytes_inj h
theorem dl (l : List UInt8) : (⟨l.toArray⟩ : ByteArray).data.toList = l := rfl
theorem bsz (l : List UInt8) : (⟨l.toArray⟩ : ByteArray).size = l.length := by rw [Lib.size_eq, dl]
theorem bt_ten (s : ByteArray) (i : Nat) (h : i < s.size) : bt s (i : Int) = 10 ↔ s.data.toList[i]? = some 10 := by
  have h1 : bt s (i : Int) = ((s[i]'h).toNat : Int) := (bt_at s (i : Int) (by simpa using h)).symm
  have h2 : s.data.toList[i]? = some (s[i]'h) := by
    rw [Array.getElem?_toList]
    exact Array.getElem?_eq_getElem h
  rw [h1, h2]
  constructor
  · intro e
    have : (s[i]'h).toNat = 10 := by omega
    exact congrArg some (UInt8.toNat_inj.1 this)
  · intro e
    injection e with e
    rw [e]
    rfl
theorem dropU (l : List UInt8) (i : Nat) (h : i < l.length) : l.drop i = l.getD i 0 :: l.drop (i + 1) := by
  rw [List.drop_eq_getElem_cons h, List.getD_eq_getElem?_getD, List.getElem?_eq_getElem h, Option.getD_some]
/-! lines -/
def ln : List UInt8 → List UInt8 → List ByteArray
  | cur, [] => if cur = [] then [] else [⟨cur.toArray⟩]
  | cur, c :: l => if c = 10 then ⟨(cur ++ [10]).toArray⟩ :: ln [] l else ln (cur ++ [c]) l
theorem ln_len : ∀ (l cur : List UInt8), (ln cur l).length ≤ l.length + 1
  | [], cur => by rw [ln]; split <;> simp
  | c :: l, cur => by
    rw [ln]
    split
    · have := ln_len l []; simp only [List.length_cons]; omega
    · have := ln_len l (cur ++ [c]); simp only [List.length_cons]; omega
theorem ln_tot : ∀ (l cur : List UInt8), Rs.tot (ln cur l) = cur.length + l.length
  | [], cur => by
    rw [ln]
    by_cases h : cur = []
    · rw [if_pos h, h]; rfl
    · rw [if_neg h, Rs.tot, Rs.tot, bsz]; rfl
  | c :: l, cur => by
    rw [ln]
    by_cases h : c = 10
    · rw [if_pos h, Rs.tot, bsz, ln_tot l []]; simp only [List.length_append, List.length_cons, List.length_nil]; omega
    · rw [if_neg h, ln_tot l _]; simp only [List.length_append, List.length_cons, List.length_nil]; omega
theorem ln_miss : ∀ (l cur : List UInt8), Lib.indexByte l 10 = -1 → ln cur l = if cur ++ l = [] then [] else [⟨(cur ++ l).toArray⟩]
  | [], cur, _ => by rw [ln, List.append_nil]
  | c :: l, cur, h => by
    rw [Lib.indexByte] at h
    have hge := Lib.indexByte_ge l 10
    by_cases hc : c = 10
    · subst hc; simp at h
    · rw [if_neg (by simpa using hc)] at h
      by_cases hm : Lib.indexByte l 10 = -1
      · rw [ln, if_neg hc, ln_miss l _ hm, List.append_assoc]; rfl
      · rw [if_neg (by simpa using hm)] at h; omega
theorem ln_hit : ∀ (l cur : List UInt8) (i : Nat), Lib.indexByte l 10 = (i : Int) → ln cur l = ⟨(cur ++ l.take (i + 1)).toArray⟩ :: ln [] (l.drop (i + 1))
  | [], cur, i, h => by rw [Lib.indexByte] at h; omega
  | c :: l, cur, i, h => by
    rw [Lib.indexByte] at h
    have hge := Lib.indexByte_ge l 10
    by_cases hc : c = 10
    · subst hc
      rw [if_pos (by decide)] at h
      obtain rfl : i = 0 := by omega
      rw [ln, if_pos rfl]
      rfl
    · rw [if_neg (by simpa using hc)] at h
      by_cases hm : Lib.indexByte l 10 = -1
      · rw [if_pos (by simpa using hm)] at h; omega
      · rw [if_neg (by simpa using hm)] at h
        obtain ⟨j, rfl⟩ : ∃ j, i = j + 1 := ⟨i - 1, by omega⟩
        rw [ln, if_neg hc, ln_hit l _ j (by omega), List.append_assoc]
        rfl
theorem fin_cons (a : ByteArray) (P : List ByteArray) (h : P ≠ []) : (if (a :: P).getLastD ByteArray.empty = ByteArray.empty then (a :: P).dropLast else a :: P) = a :: (if P.getLastD ByteArray.empty = ByteArray.empty then P.dropLast else P) := by
  obtain ⟨b, P, rfl⟩ : ∃ b P', P = b :: P' := by cases P with | nil => exact absurd rfl h | cons b P => exact ⟨b, P, rfl⟩
  have e : (a :: b :: P).getLastD ByteArray.empty = (b :: P).getLastD ByteArray.empty := rfl
  rw [e]
  split <;> rfl
theorem lns_go : ∀ (k : Nat) (s : ByteArray), Lib.countB s Sl.nlb = k → (if (Lib.splitB Sl.nlb 1 k s).getLastD ByteArray.empty = ByteArray.empty then (Lib.splitB Sl.nlb 1 k s).dropLast else Lib.splitB Sl.nlb 1 k s) = ln [] s.data.toList
  | 0, s, hk => by
    have hm : Lib.indexB s Sl.nlb = -1 := by
      rcases Lib.indexB_cases s Sl.nlb with h | ⟨i, h, _⟩
      · exact h
      · have := Lib.countB_hit s Sl.nlb i (by decide) h; omega
    rw [Sl.index_eq] at hm
    rw [ln_miss _ _ hm, Lib.splitB_zero, List.nil_append]
    show (if s = ByteArray.empty then [] else [s]) = _
    by_cases h : s = ByteArray.empty
    · rw [if_pos h, h, if_pos (by rfl)]
    · rw [if_neg h, if_neg (fun e => h (bytes_eq (e.trans rfl)))]
  | k + 1, s, hk => by
    rcases Lib.indexB_cases s Sl.nlb with h | ⟨i, h, hroom⟩
    · have := Lib.countB_miss s Sl.nlb h; omega
    · have hh := Lib.countB_hit s Sl.nlb i (by decide) h
      have hne : Lib.splitB Sl.nlb 1 k (s.extract (i + Sl.nlb.size) s.size) ≠ [] := by
        intro e
        have := Lib.splitB_all Sl.nlb (by decide) 1 k (s.extract (i + Sl.nlb.size) s.size) (by omega)
        rw [e] at this
        simp at this
      rw [Lib.splitB_hit Sl.nlb 1 k s i h, fin_cons _ _ hne, lns_go k _ (by omega)]
      rw [Sl.index_eq] at h
      rw [ln_hit _ [] i h, Lib.extract_to_end]
      have e1 : s.extract 0 (i + 1) = ⟨([] ++ List.take (i + 1) s.data.toList).toArray⟩ := by
        apply bytes_eq
        rw [dl, ← Lib.toList_data, Lib.extract_toList]
        rfl
      rw [e1]
      rfl
theorem split_p (s : ByteArray) (hs : s.size ≤ 1048576) : lines_Split.f s = some (ln [] s.data.toList) := by
  unfold lines_Split.f
  rw [if_pos (by omega)]
  unfold Sl.lns Sl.pcs
  rw [lns_go _ s rfl]
theorem split_r (s : ByteArray) (hs : s.size ≤ 1048576) : Ev (fun k => redlineref02_Split.f k s) (ln [] s.data.toList) := by
  have hl : s.data.toList.length = s.size := (Lib.size_eq s).symm
  have ext : ∀ a b : Nat, s.extract a b = ⟨((s.data.toList.drop a).take (b - a)).toArray⟩ := by
    intro a b
    apply bytes_eq
    rw [dl, ← Lib.toList_data, Lib.extract_toList]
  have go : ∀ (d i at_ : Nat) (out : List ByteArray), i + d = s.size → at_ ≤ i → out.length ≤ i → Ev (fun k => redlineref02_Split.l0 k s out (at_ : Int) (i : Int)) (out ++ ln ((s.data.toList.drop at_).take (i - at_)) (s.data.toList.drop i)) := by
    intro d
    induction d with
    | zero =>
      intro i at_ out hi ha ho
      apply Ev_unfold
      rw [List.drop_eq_nil_of_le (show s.data.toList.length ≤ i by omega), ln]
      by_cases h : at_ < s.size
      · have hne : ¬ (s.data.toList.drop at_).take (i - at_) = [] := by
          intro e
          have := congrArg List.length e
          rw [List.length_take, List.length_drop, List.length_nil] at this
          omega
        rw [if_neg hne]
        simp only [redlineref02_Split.l0, if_neg (show ¬ (i : Int) < (s.size : Int) by omega), if_pos (show (at_ : Int) < (s.size : Int) by omega), if_pos (show (0 : Int) ≤ (at_ : Int) by omega), if_pos (show (at_ : Int) ≤ (s.size : Int) by omega), if_pos (show out.length < 8796093022208 by omega), Int.toNat_natCast, ext]
        rw [show s.size - at_ = i - at_ by omega]
        exact Ev.now _
      · rw [if_pos (show (s.data.toList.drop at_).take (i - at_) = [] by rw [show i - at_ = 0 by omega, List.take_zero]), List.append_nil]
        simp only [redlineref02_Split.l0, if_neg (show ¬ (i : Int) < (s.size : Int) by omega), if_neg (show ¬ (at_ : Int) < (s.size : Int) by omega)]
        exact Ev.now _
    | succ d ih =>
      intro i at_ out hi ha ho
      apply Ev_unfold
      have o2 : i < 4611686018427387904 := by omega
      have htk : (s.data.toList.drop at_).take (i + 1 - at_) = (s.data.toList.drop at_).take (i - at_) ++ [s.data.toList.getD i 0] := by
        rw [show i + 1 - at_ = (i - at_) + 1 by omega, List.take_add_one, List.getElem?_drop, show at_ + (i - at_) = i by omega, List.getD_eq_getElem?_getD, List.getElem?_eq_getElem (by omega)]
        rfl
      have hbt := bt_ten s i (by omega)
      rw [dropU _ i (by omega), ln]
      by_cases h10 : bt s (i : Int) = 10
      · have hc : s.data.toList.getD i 0 = 10 := by rw [List.getD_eq_getElem?_getD, hbt.1 h10]; rfl
        rw [hc] at htk
        have hgo := ih (i + 1) (i + 1) (out ++ [s.extract at_ (i + 1)]) (by omega) (by omega) (by rw [List.length_append, List.length_singleton]; omega)
        rw [Nat.sub_self, List.take_zero, ext, htk, List.append_assoc] at hgo
        rw [if_pos hc]
        simp only [redlineref02_Split.l0, if_pos (show (i : Int) < (s.size : Int) by omega), if_pos (show (0 : Int) ≤ (i : Int) by omega), if_pos h10, wadd i o2, if_pos (show (0 : Int) ≤ (at_ : Int) by omega), if_pos (show (at_ : Int) ≤ ((i + 1 : Nat) : Int) by omega), if_pos (show ((i + 1 : Nat) : Int) ≤ (s.size : Int) by omega), if_pos (show out.length < 8796093022208 by omega), Int.toNat_natCast, ext, htk]
        exact hgo
      · have hc : ¬ s.data.toList.getD i 0 = 10 := by
          intro e
          apply h10
          apply hbt.2
          rw [List.getD_eq_getElem?_getD, List.getElem?_eq_getElem (by omega)] at e
          rw [List.getElem?_eq_getElem (by omega)]
          exact congrArg some e
        have hgo := ih (i + 1) at_ out (by omega) (by omega) (by omega)
        rw [htk] at hgo
        rw [if_neg hc]
        simp only [redlineref02_Split.l0, if_pos (show (i : Int) < (s.size : Int) by omega), if_pos (show (0 : Int) ≤ (i : Int) by omega), if_neg h10, wadd i o2]
        exact hgo
  unfold redlineref02_Split.f
  have := go s.size 0 0 [] (by omega) (by omega) (by simp)
  rw [Nat.sub_self, List.take_zero, List.drop_zero, List.nil_append] at this
  exact this
end H27
end Go.Proofs.YtchhelmilbheoaaDoor.Q
