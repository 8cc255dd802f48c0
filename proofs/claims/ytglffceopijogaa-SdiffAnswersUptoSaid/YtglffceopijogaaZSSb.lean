/- plain: texts joined, and the pieces of two texts: the program's answer and the reference's -/
import Derived.Test.YtglffceopijogaaZSSa
import Derived.Test.YtglffceopijogaaZSUa
import Derived.Lib.IndexLaws
import Derived.Lib.SmallJoins
import Derived.Lib.Strings
import Derived.Test.YtglffceopijogaaZSXx10
import Derived.Test.YtglffceopijogaaZSXx19
import Derived.Test.YtglffceopijogaaZSXx20
import Derived.Test.YtglffceopijogaaZSXx25
import Derived.Test.YtglffceopijogaaZSXx29
import Derived.Test.YtglffceopijogaaZSXx30
import Derived.Test.YtglffceopijogaaZSXx33
import Derived.Test.YtglffceopijogaaZSXx5
import Derived.Test.YtglffceopijogaaZSXx6
import Derived.Test.YtglffceopijogaaZSXx7
import Derived.Test.YtglffceopijogaaZSXx8
import Derived.Test.YtglffceopijogaaZSXx9
namespace Go.Proofs.Ytglffceopijogaa.Q
set_option linter.unusedVariables false
set_option linter.unusedSimpArgs false
open Go.RowKit Go.Proofs.Ytglffceopijogaa.X Go.Proofs.YtglffceopijogaaW.PrintWords Go.Proofs.YtglffceopijogaaW.PrintLast Go.Proofs.YtglffceopijogaaW.PrintMore
namespace H21
open H11 (Ch zc Chn Small rdCh_nat dropC)
abbrev be : ByteArray := ByteArray.empty
abbrev Pc := S74
theorem rdS_nat (l : List ByteArray) (i : Nat) : rdOf be l (i : Int) = l.getD i be := by
  have h : ∀ j : Int, j = (i : Int) → rdOf be l j = l.getD i be := by
    intro j h
    subst h
    rfl
  exact h _ rfl
theorem dropS (l : List ByteArray) (i : Nat) (h : i < l.length) : l.drop i = l.getD i be :: l.drop (i + 1) := by
  rw [List.drop_eq_getElem_cons h]; simp [List.getD_eq_getElem?_getD, h]
theorem getS_mem (l : List ByteArray) (i : Nat) (h : i < l.length) : l.getD i be ∈ l := by
  rw [List.getD_eq_getElem?_getD, List.getElem?_eq_getElem h]
  exact List.getElem_mem h
theorem bytes_eq {a b : ByteArray} (h : a.data.toList = b.data.toList) : a = b := Go.WideShapes.bytes_inj h
theorem str_eq (a b : ByteArray) : a.toList = b.toList ↔ a = b := by
  constructor
  · intro h
    rw [Lib.toList_data, Lib.toList_data] at h
    exact bytes_eq h
  · intro h; rw [h]
theorem toList_nil (a : ByteArray) : a.toList = [] ↔ a.size = 0 := by
  rw [Lib.toList_data, Lib.size_eq]
  exact List.length_eq_zero_iff.symm
theorem bt_ten (s : ByteArray) (i : Nat) (h : i < s.size) : bt s (i : Int) = 10 ↔ s.data.toList[i]? = some 10 := by
  have h1 : bt s (i : Int) = ((s[i]'h).toNat : Int) := (bt_at s (i : Int) (by simpa using h)).symm
  have h2 : s.data.toList[i]? = some (s[i]'h) := by
    rw [Array.getElem?_toList]
    exact Array.getElem?_eq_getElem h
  rw [h1, h2]
  constructor
  · intro e
    have : (s[i]'h).toNat = 10 := by omega
    exact congrArg some (UInt8.toNat_inj.1 this)
  · intro e
    injection e with e
    rw [e]
    rfl
theorem suffix (s : ByteArray) (h : 0 < s.size) : (s.extract (s.size - 1) s.size).toList = [10] ↔ bt s ((s.size - 1 : Nat) : Int) = 10 := by
  rw [bt_ten s (s.size - 1) (by omega), Lib.extract_toList]
  have hl : s.data.toList.length = s.size := (Lib.size_eq s).symm
  have hd : s.data.toList.drop (s.size - 1) = [s.data.toList[s.size - 1]'(by omega)] := by
    rw [List.drop_eq_getElem_cons (by omega), List.drop_eq_nil_of_le (by omega)]
  rw [hd, show s.size - (s.size - 1) = 1 by omega, List.getElem?_eq_getElem (show s.size - 1 < s.data.toList.length by omega)]
  simp
/-- a text behind another one -/
def J (s t : ByteArray) : ByteArray := if 0 < s.size ∧ 0 < t.size ∧ bt s ((s.size - 1 : Nat) : Int) ≠ 10 then (s ++ (⟨#[10]⟩ : ByteArray)) ++ t else s ++ t
theorem J_pre (s t : ByteArray) : ∃ u, J s t = s ++ u := by
  unfold J
  split
  · exact ⟨(⟨#[10]⟩ : ByteArray) ++ t, by apply bytes_eq; simp only [Go.Joins.data_append, List.append_assoc]⟩
  · exact ⟨t, rfl⟩
theorem J_size (s t : ByteArray) : (J s t).size ≤ s.size + t.size + 1 := by
  unfold J
  split
  · rw [ByteArray.size_append, ByteArray.size_append]
    have : (⟨#[10]⟩ : ByteArray).size = 1 := rfl
    omega
  · rw [ByteArray.size_append]; omega
theorem J_joined (s t : ByteArray) (hs : s.size ≤ 100000000000000) (ht : t.size ≤ 100000000000000) : sdiff_joined.f s t = some (J s t) := by
  have z1 : s.size + t.size ≤ 9223372036854775807 := by omega
  have z2 : s.size + 1 ≤ 9223372036854775807 := by omega
  have z3 : (s ++ (⟨#[10]⟩ : ByteArray)).size + t.size ≤ 9223372036854775807 := by
    rw [ByteArray.size_append]
    have : (⟨#[10]⟩ : ByteArray).size = 1 := rfl
    omega
  unfold sdiff_joined.f J
  by_cases h0 : s.toList = []
  · have e0 := (toList_nil s).1 h0
    rw [if_pos h0, if_pos z1, if_neg (fun h => by omega)]
  · have e0 : 0 < s.size := by have := mt (toList_nil s).2 h0; omega
    rw [if_neg h0]
    by_cases h1 : t.toList = []
    · have e1 := (toList_nil t).1 h1
      rw [if_pos h1, if_pos z1, if_neg (fun h => by omega)]
    · have e1 : 0 < t.size := by have := mt (toList_nil t).2 h1; omega
      rw [if_neg h1]
      have hsuf : strings_HasSuffix.f s (⟨#[10]⟩ : ByteArray) = some (decide (bt s ((s.size - 1 : Nat) : Int) = 10)) := by
        unfold strings_HasSuffix.f stringslite_HasSuffix.f
        have e1 : ((⟨#[10]⟩ : ByteArray).size : Int) = 1 := rfl
        rw [e1]
        have w1 : wrap64 ((s.size : Int) - 1) = ((s.size - 1 : Nat) : Int) := by rw [w64 _ (by omega)]; omega
        rw [if_pos (show (s.size : Int) ≥ 1 by omega), w1, if_pos (by omega), if_pos (by omega), Int.toNat_natCast, bsome]
        have e2 : (⟨#[10]⟩ : ByteArray).toList = [10] := by rw [Lib.toList_data]
        rw [e2]
        have := suffix s (by omega)
        by_cases hb : bt s ((s.size - 1 : Nat) : Int) = 10
        · rw [decide_eq_true hb, beq_iff_eq.mpr (this.2 hb)]
        · rw [decide_eq_false hb, beq_eq_false_iff_ne.mpr (fun e => hb (this.1 e))]
      rw [hsuf, bsome]
      by_cases hb : bt s ((s.size - 1 : Nat) : Int) = 10
      · rw [decide_eq_true hb, if_pos rfl, if_pos z1, if_neg (fun h => h.2.2 hb)]
      · rw [decide_eq_false hb, if_neg Bool.false_ne_true, if_pos z2, if_pos z3, if_pos ⟨e0, e1, hb⟩]
theorem J_add (s t : ByteArray) (hs : s.size ≤ 100000000000000) (ht : t.size ≤ 100000000000000) : redlineref21_add.f s t = some (J s t) := by
  have z1 : s.size + t.size ≤ 9223372036854775807 := by omega
  have z2 : s.size + 1 ≤ 9223372036854775807 := by omega
  have z3 : (s ++ (⟨#[10]⟩ : ByteArray)).size + t.size ≤ 9223372036854775807 := by
    rw [ByteArray.size_append]
    have : (⟨#[10]⟩ : ByteArray).size = 1 := rfl
    omega
  unfold redlineref21_add.f J
  by_cases h0 : (s.size : Int) > 0
  · rw [if_pos h0]
    by_cases h1 : (t.size : Int) > 0
    · have w1 : wrap64 ((s.size : Int) - 1) = ((s.size - 1 : Nat) : Int) := by rw [w64 _ (by omega)]; omega
      rw [if_pos h1, w1, if_pos (by omega), if_pos (by omega)]
      by_cases hb : bt s ((s.size - 1 : Nat) : Int) = 10
      · rw [if_pos hb, if_pos z1, if_neg (fun h => h.2.2 hb)]
      · rw [if_neg hb, if_pos z2, if_pos z3, if_pos ⟨by omega, by omega, hb⟩]
    · rw [if_neg h1, if_pos z1, if_neg (fun h => by omega)]
  · rw [if_neg h0, if_pos z1, if_neg (fun h => by omega)]
/-- lines, one behind the other -/
def A (l : List ByteArray) (s : ByteArray) : ByteArray := l.foldl J s
theorem A_size : ∀ (l : List ByteArray) (s : ByteArray), (∀ x ∈ l, x.size ≤ 1048576) → (A l s).size ≤ s.size + l.length * 1048577
  | [], s, _ => by simp [A]
  | x :: l, s, h => by
    have h1 := A_size l (J s x) (fun y hy => h y (List.mem_cons_of_mem _ hy))
    have h2 := J_size s x
    have h3 := h x (List.mem_cons_self ..)
    show (A l (J s x)).size ≤ _
    rw [List.length_cons]
    omega
theorem all_ev (l : List ByteArray) (hl : l.length ≤ 1048576) (hs : ∀ x ∈ l, x.size ≤ 1048576) : Ev (fun k => sdiff_all.f k l) (A l be) := by
  have go : ∀ (d i : Nat) (s : ByteArray), i + d = l.length → s.size ≤ i * 1048577 → Ev (fun k => sdiff_all.l0 k s l (l.length : Int) (i : Int)) (A (l.drop i) s) := by
    intro d
    induction d with
    | zero =>
      intro i s hi hz
      apply Ev_unfold
      rw [List.drop_eq_nil_of_le (by omega)]
      simp only [sdiff_all.l0, if_neg (show ¬ (i : Int) < (l.length : Int) by omega)]
      exact Ev.now _
    | succ d ih =>
      intro i s hi hz
      apply Ev_unfold
      have o2 : i < 4611686018427387904 := by omega
      have h1 := hs _ (getS_mem l i (by omega))
      have h2 := J_size s (l.getD i be)
      rw [dropS l i (by omega)]
      simp only [sdiff_all.l0, if_pos (show (i : Int) < (l.length : Int) by omega), if_pos (show (0 : Int) ≤ (i : Int) by omega), rdS_nat, J_joined s (l.getD i be) (by omega) (by omega), bsome, wadd i o2]
      exact ih (i + 1) (J s (l.getD i be)) (by omega) (by rw [Nat.succ_mul]; omega)
  exact go l.length 0 be (by omega) (by decide)
theorem lines_ev (l : List ByteArray) (hl : l.length ≤ 1048576) (hs : ∀ x ∈ l, x.size ≤ 1048576) : Ev (fun k => redlineref21_Lines.f k l) (A l be) := by
  have go : ∀ (d i : Nat) (s : ByteArray), i + d = l.length → s.size ≤ i * 1048577 → Ev (fun k => redlineref21_Lines.l0 k l s (i : Int)) (A (l.drop i) s) := by
    intro d
    induction d with
    | zero =>
      intro i s hi hz
      apply Ev_unfold
      rw [List.drop_eq_nil_of_le (by omega)]
      simp only [redlineref21_Lines.l0, if_neg (show ¬ (i : Int) < (l.length : Int) by omega)]
      exact Ev.now _
    | succ d ih =>
      intro i s hi hz
      apply Ev_unfold
      have o2 : i < 4611686018427387904 := by omega
      have h1 := hs _ (getS_mem l i (by omega))
      have h2 := J_size s (l.getD i be)
      rw [dropS l i (by omega)]
      simp only [redlineref21_Lines.l0, if_pos (show (i : Int) < (l.length : Int) by omega), if_pos (show (0 : Int) ≤ (i : Int) by omega), rdS_nat, J_add s (l.getD i be) (by omega) (by omega), bsome, wadd i o2]
      exact ih (i + 1) (J s (l.getD i be)) (by omega) (by rw [Nat.succ_mul]; omega)
  exact go l.length 0 be (by omega) (by decide)
def cut (l : List ByteArray) (a b : Int) : List ByteArray := (l.take b.toNat).drop a.toNat
theorem cut_mem {a : List ByteArray} {i j : Int} {s : ByteArray} (h : s ∈ cut a i j) : s ∈ a := List.mem_of_mem_take (List.mem_of_mem_drop h)
theorem cut_le (a : List ByteArray) (i j : Int) : (cut a i j).length ≤ a.length := by
  unfold cut
  rw [List.length_drop, List.length_take]
  omega
/-- the pieces of two texts, and what is kept at the end -/
def pcs (a b : List ByteArray) : List Ch → Int → List Pc
  | [], _ => []
  | c :: l, at_ => ⟨A (cut a at_ c.f0) be, A (cut a c.f0 (c.f0 + c.f1)) be, A (cut b c.f2 (c.f2 + c.f3)) be⟩ :: pcs a b l (c.f0 + c.f1)
def pend : List Ch → Int → Int
  | [], at_ => at_
  | c :: l, _ => pend l (c.f0 + c.f1)
theorem pcs_len (a b : List ByteArray) : ∀ (l : List Ch) (at_ : Int), (pcs a b l at_).length = l.length
  | [], _ => rfl
  | c :: l, at_ => by rw [pcs, List.length_cons, List.length_cons, pcs_len a b l]
section
variable (a b : List ByteArray) (ha : a.length ≤ 60) (hb : b.length ≤ 60) (has : ∀ s ∈ a, s.size ≤ 1048576) (hbs : ∀ s ∈ b, s.size ≤ 1048576)
include ha hb has hbs
theorem A_le (i j : Int) : (A (cut a i j) be).size ≤ 100000000 ∧ (A (cut b i j) be).size ≤ 100000000 := by
  have h1 := A_size (cut a i j) be (fun x hx => has x (cut_mem hx))
  have h2 := A_size (cut b i j) be (fun x hx => hbs x (cut_mem hx))
  have h3 := cut_le a i j
  have h4 := cut_le b i j
  have e : be.size = 0 := rfl
  omega
theorem pcs_le : ∀ (l : List Ch) (at_ : Int), ∀ p ∈ pcs a b l at_, p.f0.size ≤ 100000000 ∧ p.f1.size ≤ 100000000 ∧ p.f2.size ≤ 100000000
  | [], _, p, h => by cases h
  | c :: l, at_, p, h => by
    rw [pcs] at h
    rcases List.mem_cons.1 h with rfl | h
    · exact ⟨(A_le a b ha hb has hbs _ _).1, (A_le a b ha hb has hbs _ _).1, (A_le a b ha hb has hbs _ _).2⟩
    · exact pcs_le l _ p h
theorem pieces_ev (l : List Ch) (hl : l.length ≤ 10) (hc : Chn a.length b.length 0 0 l) : Ev (fun k => sdiff_pieces.f k l a b) (pcs a b l 0, A (a.drop (pend l 0).toNat) be) := by
  have go : ∀ (d i : Nat) (acc : List Pc) (at_ bt_ : Int), i + d = l.length → acc.length = i → 0 ≤ at_ → at_ ≤ (a.length : Int) → 0 ≤ bt_ → Chn a.length b.length at_ bt_ (l.drop i) →
      Ev (fun k => sdiff_pieces.l0 k a b acc at_ l (l.length : Int) (i : Int)) (acc ++ pcs a b (l.drop i) at_, A (a.drop (pend (l.drop i) at_).toNat) be) := by
    intro d
    induction d with
    | zero =>
      intro i acc at_ bt_ hi hac h0 h1 h2 hch
      apply Ev_unfold
      rw [List.drop_eq_nil_of_le (by omega), pcs, pend, List.append_nil]
      simp only [sdiff_pieces.l0, if_neg (show ¬ (i : Int) < (l.length : Int) by omega), if_pos h0, if_pos h1]
      refine Ev.bind (all_ev (a.drop at_.toNat) (by rw [List.length_drop]; omega) (fun x hx => has x (List.mem_of_mem_drop hx))) ?_
      exact Ev.now _
    | succ d ih =>
      intro i acc at_ bt_ hi hac h0 h1 h2 hch
      apply Ev_unfold
      have o2 : i < 4611686018427387904 := by omega
      rw [dropC l i (by omega)] at hch ⊢
      obtain ⟨c, hcc⟩ : ∃ c, l.getD i zc = c := ⟨_, rfl⟩
      rw [hcc] at hch ⊢
      obtain ⟨s0, s1, s2, s3, q0, q1, q2, q3, q4⟩ := hch
      unfold Small at s0 s1 s2 s3
      have e1 : wrap64 (c.f0 + c.f1) = c.f0 + c.f1 := w64 _ (by omega)
      have e2 : wrap64 (c.f2 + c.f3) = c.f2 + c.f3 := w64 _ (by omega)
      simp only [sdiff_pieces.l0, if_pos (show (i : Int) < (l.length : Int) by omega), if_pos (show (0 : Int) ≤ (i : Int) by omega), rdCh_nat, hcc, if_pos h0, if_pos q0, if_pos (show c.f0 ≤ (a.length : Int) by omega), if_pos (show (0 : Int) ≤ c.f0 by omega), e1, e2, if_pos (show c.f0 ≤ c.f0 + c.f1 by omega), if_pos q2, if_pos (show (0 : Int) ≤ c.f2 by omega), if_pos (show c.f2 ≤ c.f2 + c.f3 by omega), if_pos q3]
      refine Ev.bind (all_ev (cut a at_ c.f0) (Nat.le_trans (cut_le _ _ _) (by omega)) (fun x hx => has x (cut_mem hx))) ?_
      refine Ev.bind (all_ev (cut a c.f0 (c.f0 + c.f1)) (Nat.le_trans (cut_le _ _ _) (by omega)) (fun x hx => has x (cut_mem hx))) ?_
      refine Ev.bind (all_ev (cut b c.f2 (c.f2 + c.f3)) (Nat.le_trans (cut_le _ _ _) (by omega)) (fun x hx => hbs x (cut_mem hx))) ?_
      simp only [if_pos (show acc.length < 2932031007402 by omega), wadd i o2]
      have h := ih (i + 1) (acc ++ [(⟨A (cut a at_ c.f0) be, A (cut a c.f0 (c.f0 + c.f1)) be, A (cut b c.f2 (c.f2 + c.f3)) be⟩ : Pc)]) (c.f0 + c.f1) (c.f2 + c.f3) (by omega) (by rw [List.length_append, hac]; rfl) (by omega) (by omega) (by omega) q4
      rw [List.append_assoc] at h
      rw [pcs, pend]
      exact h
  have h := go l.length 0 [] 0 0 (by omega) rfl (by omega) (by omega) (by omega) hc
  exact h
end
theorem A_end (a : List ByteArray) (ha : a.length ≤ 60) (has : ∀ s ∈ a, s.size ≤ 1048576) (i : Nat) : (A (a.drop i) be).size ≤ 100000000 := by
  have h1 := A_size (a.drop i) be (fun x hx => has x (List.mem_of_mem_drop hx))
  have e : be.size = 0 := rfl
  rw [List.length_drop] at h1
  omega
theorem eq_r (x y : List ByteArray) (hl : x.length ≤ 1000000000000000) : Ev (fun k => redlineref01_SameStrings.f k x y) (decide (x = y)) := by
  have go : x.length = y.length → ∀ (d i : Nat), i + d = x.length → Ev (fun k => redlineref01_SameStrings.l0 k x y (i : Int)) (decide (x.drop i = y.drop i)) := by
    intro he d
    induction d with
    | zero =>
      intro i hi
      apply Ev_unfold
      rw [List.drop_eq_nil_of_le (show x.length ≤ i by omega), List.drop_eq_nil_of_le (show y.length ≤ i by omega), decide_eq_true rfl]
      simp only [redlineref01_SameStrings.l0, if_neg (show ¬ (i : Int) < (x.length : Int) by omega)]
      exact Ev.now _
    | succ d ih =>
      intro i hi
      apply Ev_unfold
      have o2 : i < 4611686018427387904 := by omega
      rw [dropS x i (by omega), dropS y i (by omega)]
      simp only [redlineref01_SameStrings.l0, if_pos (show (i : Int) < (x.length : Int) by omega), if_pos (show (0 : Int) ≤ (i : Int) by omega), if_pos (show (i : Int) < (y.length : Int) by omega), rdS_nat, wadd i o2]
      by_cases h : (x.getD i be).toList = (y.getD i be).toList
      · simp only [if_pos h]
        have h2 := (str_eq _ _).1 h
        rw [h2]
        simp only [List.cons.injEq, true_and]
        exact ih (i + 1) (by omega)
      · simp only [if_neg h]
        rw [decide_eq_false (fun e => h ((str_eq _ _).2 (by injection e)))]
        exact Ev.now _
  unfold redlineref01_SameStrings.f
  by_cases h : (x.length : Int) = (y.length : Int)
  · simp only [if_pos h]
    exact go (by omega) x.length 0 (by omega)
  · simp only [if_neg h]
    rw [decide_eq_false (fun e => h (by rw [e]))]
    exact Ev.now _
end H21
end Go.Proofs.Ytglffceopijogaa.Q
