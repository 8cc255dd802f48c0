/- plain: lines without their line feeds, and with one; names -/
import Derived.Test.YtnbeppnpfdempaaZVUa
import Derived.Lib.IndexLaws
import Derived.Lib.SmallJoins
import Derived.Lib.Strings
import Derived.Test.YtnbeppnpfdempaaZVXx13
import Derived.Test.YtnbeppnpfdempaaZVXx15
import Derived.Test.YtnbeppnpfdempaaZVXx18
import Derived.Test.YtnbeppnpfdempaaZVXx19
import Derived.Test.YtnbeppnpfdempaaZVXx20
import Derived.Test.YtnbeppnpfdempaaZVXx21
import Derived.Test.YtnbeppnpfdempaaZVXx22
import Derived.Test.YtnbeppnpfdempaaZVXx4
import Derived.Test.YtnbeppnpfdempaaZVXx5
import Derived.Test.YtnbeppnpfdempaaZVXx6
import Derived.Test.YtnbeppnpfdempaaZVXx7
import Derived.Test.YtnbeppnpfdempaaZVXx8
namespace Go.Proofs.Ytnbeppnpfdempaa.Q
set_option linter.unusedVariables false
set_option linter.unusedSimpArgs false
open Go.RowKit Go.Proofs.Ytnbeppnpfdempaa.X Go.Proofs.YtnbeppnpfdempaaW.PrintWords Go.Proofs.YtnbeppnpfdempaaW.PrintLast Go.Proofs.YtnbeppnpfdempaaW.PrintMore
namespace H17
abbrev be : ByteArray := ByteArray.empty
theorem rdS_nat (l : List ByteArray) (i : Nat) : rdOf be l (i : Int) = l.getD i be := by
  have h : ∀ j : Int, j = (i : Int) → rdOf be l j = l.getD i be := by
    intro j h
    subst h
    rfl
  exact h _ rfl
theorem dropS (l : List ByteArray) (i : Nat) (h : i < l.length) : l.drop i = l.getD i be :: l.drop (i + 1) := by
  rw [List.drop_eq_getElem_cons h]; simp [List.getD_eq_getElem?_getD, h]
theorem getS_mem (l : List ByteArray) (i : Nat) (h : i < l.length) : l.getD i be ∈ l := by
  rw [List.getD_eq_getElem?_getD, List.getElem?_eq_getElem h]
  exact List.getElem_mem h
theorem bytes_eq {a b : ByteArray} (h : a.data.toList = b.data.toList) : a = b := Go.WideShapes.bytes_inj h
theorem dl (l : List UInt8) : (⟨l.toArray⟩ : ByteArray).data.toList = l := rfl
theorem bsz (l : List UInt8) : (⟨l.toArray⟩ : ByteArray).size = l.length := by rw [Lib.size_eq, dl]
theorem bt_ten (s : ByteArray) (i : Nat) (h : i < s.size) : bt s (i : Int) = 10 ↔ s.data.toList[i]? = some 10 := by
  have h1 : bt s (i : Int) = ((s[i]'h).toNat : Int) := (bt_at s (i : Int) (by simpa using h)).symm
  have h2 : s.data.toList[i]? = some (s[i]'h) := by
    rw [Array.getElem?_toList]
    exact Array.getElem?_eq_getElem h
  rw [h1, h2]
  constructor
  · intro e
    have : (s[i]'h).toNat = 10 := by omega
    exact congrArg some (UInt8.toNat_inj.1 this)
  · intro e
    injection e with e
    rw [e]
    rfl
/-- a line without its line feed -/
def bare (s : ByteArray) : ByteArray := if 0 < s.size ∧ bt s ((s.size - 1 : Nat) : Int) = 10 then s.extract 0 (s.size - 1) else s
theorem bare_le (s : ByteArray) : (bare s).size ≤ s.size := by
  unfold bare
  split
  · rw [ByteArray.size_extract]; omega
  · exact Nat.le_refl _
theorem suffix (s : ByteArray) (h : 0 < s.size) : (s.extract (s.size - 1) s.size).toList = [10] ↔ bt s ((s.size - 1 : Nat) : Int) = 10 := by
  rw [bt_ten s (s.size - 1) (by omega), Lib.extract_toList]
  have hl : s.data.toList.length = s.size := (Lib.size_eq s).symm
  have hd : s.data.toList.drop (s.size - 1) = [s.data.toList[s.size - 1]'(by omega)] := by
    rw [List.drop_eq_getElem_cons (by omega), List.drop_eq_nil_of_le (by omega)]
  rw [hd, show s.size - (s.size - 1) = 1 by omega, List.getElem?_eq_getElem (show s.size - 1 < s.data.toList.length by omega)]
  simp
theorem bare_p (s : ByteArray) (hs : s.size ≤ 1000000000000000) : ∃ b, lines_Bare.f s = some (bare s, b) := by
  have hsuf : stringslite_HasSuffix.f s (⟨#[10]⟩ : ByteArray) = some (decide (0 < s.size ∧ bt s ((s.size - 1 : Nat) : Int) = 10)) := by
    unfold stringslite_HasSuffix.f
    have e1 : ((⟨#[10]⟩ : ByteArray).size : Int) = 1 := rfl
    rw [e1]
    by_cases h : (s.size : Int) ≥ 1
    · have w1 : wrap64 ((s.size : Int) - 1) = ((s.size - 1 : Nat) : Int) := by rw [w64 _ (by omega)]; omega
      rw [if_pos h, w1, if_pos (by omega), if_pos (by omega), Int.toNat_natCast]
      have e2 : (⟨#[10]⟩ : ByteArray).toList = [10] := by rw [Lib.toList_data]
      rw [e2]
      have := suffix s (by omega)
      by_cases hb : bt s ((s.size - 1 : Nat) : Int) = 10
      · rw [decide_eq_true (show 0 < s.size ∧ bt s ((s.size - 1 : Nat) : Int) = 10 from ⟨by omega, hb⟩), beq_iff_eq.mpr (this.2 hb)]
      · rw [decide_eq_false (fun e => hb e.2), beq_eq_false_iff_ne.mpr (fun e => hb (this.1 e))]
    · rw [if_neg h, decide_eq_false (fun e => by omega)]
  unfold lines_Bare.f strings_CutSuffix.f stringslite_CutSuffix.f
  rw [hsuf]
  simp only [bsome]
  unfold bare
  by_cases h : 0 < s.size ∧ bt s ((s.size - 1 : Nat) : Int) = 10
  · have e1 : ((⟨#[10]⟩ : ByteArray).size : Int) = 1 := rfl
    have w1 : wrap64 ((s.size : Int) - 1) = ((s.size - 1 : Nat) : Int) := by rw [w64 _ (by omega)]; omega
    rw [decide_eq_true h, if_pos rfl, e1, w1, if_pos (by omega), if_pos (by omega), if_pos h]
    exact ⟨_, rfl⟩
  · rw [decide_eq_false h, if_neg Bool.false_ne_true, if_neg h]
    exact ⟨_, rfl⟩
theorem bare_r (s : ByteArray) (hs : s.size ≤ 1000000000000000) : ∃ b, redlineref02_Bare.f s = some (bare s, b) := by
  unfold redlineref02_Bare.f bare
  by_cases h0 : (s.size : Int) = 0
  · rw [if_pos h0, if_neg (show ¬ (0 < s.size ∧ bt s ((s.size - 1 : Nat) : Int) = 10) by omega)]
    exact ⟨_, rfl⟩
  · have w1 : wrap64 ((s.size : Int) - 1) = ((s.size - 1 : Nat) : Int) := by rw [w64 _ (by omega)]; omega
    rw [if_neg h0, w1, if_pos (by omega), if_pos (by omega)]
    by_cases h : bt s ((s.size - 1 : Nat) : Int) = 10
    · rw [if_pos h, if_pos (by omega), if_pos ⟨by omega, h⟩]
      exact ⟨_, rfl⟩
    · rw [if_neg h, if_neg (fun e => h e.2)]
      exact ⟨_, rfl⟩
/-- lines, each with a line feed -/
def wh : List ByteArray → List UInt8
  | [] => []
  | s :: l => (bare s).data.toList ++ 10 :: wh l
theorem wh_app : ∀ (l r : List ByteArray), wh (l ++ r) = wh l ++ wh r
  | [], r => rfl
  | s :: l, r => by rw [List.cons_append, wh, wh, wh_app l r, List.append_assoc, List.cons_append]
theorem wh_len : ∀ (l : List ByteArray), (∀ s ∈ l, s.size ≤ 1048576) → (wh l).length ≤ l.length * 1048577
  | [], _ => by simp [wh]
  | s :: l, h => by
    have h1 := wh_len l (fun x hx => h x (List.mem_cons_of_mem _ hx))
    have h2 := h s (List.mem_cons_self ..)
    have h3 := bare_le s
    rw [wh, List.length_append, List.length_cons, List.length_cons, ← Lib.size_eq]
    omega
theorem all_p : ∀ (l : List ByteArray), (∀ s ∈ l, s.size ≤ 1048576) → If.all l = some (wh l)
  | [], _ => rfl
  | s :: l, h => by
    have h1 := all_p l (fun x hx => h x (List.mem_cons_of_mem _ hx))
    obtain ⟨b, hb⟩ := bare_p s (Nat.le_trans (h s (List.mem_cons_self ..)) (by omega))
    rw [If.all, hb, bsome, h1, bsome, wh]
theorem whole_r (x : List ByteArray) (hx : x.length ≤ 1048576) (hs : ∀ s ∈ x, s.size ≤ 1048576) : Ev (fun k => redlineref17_whole.f k x) ⟨(wh x).toArray⟩ := by
  have go : ∀ (d i : Nat) (out : ByteArray), i + d = x.length → out.size + (wh (x.drop i)).length ≤ 1000000000000000 → Ev (fun k => redlineref17_whole.l0 k x out (i : Int)) (out ++ ⟨(wh (x.drop i)).toArray⟩) := by
    intro d
    induction d with
    | zero =>
      intro i out hi ho
      apply Ev_unfold
      have e : out ++ ⟨(wh (x.drop i)).toArray⟩ = out := by
        rw [List.drop_eq_nil_of_le (show x.length ≤ i by omega)]
        apply bytes_eq
        rw [Go.Joins.data_append, dl, wh, List.append_nil]
      rw [e]
      simp only [redlineref17_whole.l0, if_neg (show ¬ (i : Int) < (x.length : Int) by omega)]
      exact Ev.now _
    | succ d ih =>
      intro i out hi ho
      apply Ev_unfold
      have o2 : i < 4611686018427387904 := by omega
      obtain ⟨s, hsd⟩ : ∃ s, x.getD i be = s := ⟨_, rfl⟩
      have hsz := hs s (hsd ▸ getS_mem x i (by omega))
      obtain ⟨b, hb⟩ := bare_r s (by omega)
      have hlen := ho
      rw [dropS x i (by omega), hsd, wh, List.length_append, List.length_cons, ← Lib.size_eq] at hlen
      have hz1 : out.size + (bare s).size ≤ 9223372036854775807 := by omega
      have hz2 : (out ++ bare s).size + 1 ≤ 9223372036854775807 := by rw [ByteArray.size_append]; omega
      simp only [redlineref17_whole.l0, if_pos (show (i : Int) < (x.length : Int) by omega), if_pos (show (0 : Int) ≤ (i : Int) by omega), rdS_nat, hsd, hb, bsome, if_pos hz1, if_pos hz2, wadd i o2]
      have hgo := ih (i + 1) ((out ++ bare s) ++ (⟨#[10]⟩ : ByteArray)) (by omega) (by
        have e1 : (⟨#[10]⟩ : ByteArray).size = 1 := rfl
        rw [ByteArray.size_append, ByteArray.size_append, e1]; omega)
      have e : out ++ ⟨(wh (x.drop i)).toArray⟩ = ((out ++ bare s) ++ (⟨#[10]⟩ : ByteArray)) ++ ⟨(wh (x.drop (i + 1))).toArray⟩ := by
        apply bytes_eq
        rw [Go.Joins.data_append, Go.Joins.data_append, Go.Joins.data_append, Go.Joins.data_append, dl, dl, dropS x i (by omega), hsd, wh, List.append_assoc, List.append_assoc]
        rfl
      rw [e]
      exact hgo
  unfold redlineref17_whole.f
  have h1 := wh_len x hs
  have := go x.length 0 ⟨#[]⟩ (by omega) (by rw [List.drop_zero, show (⟨#[]⟩ : ByteArray).size = 0 from rfl]; omega)
  rw [List.drop_zero] at this
  have e : (⟨#[]⟩ : ByteArray) ++ ⟨(wh x).toArray⟩ = ⟨(wh x).toArray⟩ := by
    apply bytes_eq
    rw [Go.Joins.data_append, dl]
    rfl
  rw [e] at this
  exact this
/-! names -/
def nameok (s : ByteArray) : Bool := nm_go s.data.toList true && (decide (¬ s.size = 0) && decide (s.size ≤ 64))
theorem letter_eq (c : Int) : redlineref17_letter.f c = some (nm_let c) := by
  unfold redlineref17_letter.f nm_let
  by_cases h1 : c ≥ 97
  · by_cases h2 : c ≤ 122
    · rw [if_pos h1, if_pos h2, decide_eq_true (show 97 ≤ c from h1), decide_eq_true h2]; simp
    · rw [if_pos h1, if_neg h2, if_pos (show c ≥ 65 by omega), if_neg (show ¬ c ≤ 90 by omega), decide_eq_false h2, decide_eq_false (show ¬ c ≤ 90 by omega)]; simp
  · rw [if_neg h1, decide_eq_false (show ¬ 97 ≤ c from h1)]
    by_cases h3 : c ≥ 65
    · by_cases h4 : c ≤ 90
      · rw [if_pos h3, if_pos h4, decide_eq_true (show 65 ≤ c from h3), decide_eq_true h4]; simp
      · rw [if_pos h3, if_neg h4, decide_eq_false h4]; simp
    · rw [if_neg h3, decide_eq_false (show ¬ 65 ≤ c from h3)]; simp
theorem name_r (s : ByteArray) (hs : s.size ≤ 1000000000000000) : Ev (fun k => redlineref17_Name.f k s) (nameok s) := by
  have go : ∀ (d i : Nat), i + d = s.size → Ev (fun k => redlineref17_Name.l0 k s (i : Int)) (nm_go (s.data.toList.drop i) (decide (i = 0))) := by
    intro d
    induction d with
    | zero =>
      intro i hi
      apply Ev_unfold
      rw [List.drop_eq_nil_of_le (by rw [← Lib.size_eq]; omega), nm_go]
      simp only [redlineref17_Name.l0, if_neg (show ¬ (i : Int) < (s.size : Int) by omega)]
      exact Ev.now _
    | succ d ih =>
      intro i hi
      apply Ev_unfold
      have o2 : i < 4611686018427387904 := by omega
      have hb : bt s (i : Int) = ((s[i]'(by omega)).toNat : Int) := (bt_at s (i : Int) (by simpa using (show i < s.size by omega))).symm
      rw [nm_drop s i (by omega), nm_go, ← hb]
      simp only [redlineref17_Name.l0, if_pos (show (i : Int) < (s.size : Int) by omega), if_pos (show (0 : Int) ≤ (i : Int) by omega), letter_eq, bsome, wadd i o2]
      have hgo := ih (i + 1) (by omega)
      rw [decide_eq_false (show ¬ i + 1 = 0 by omega)] at hgo
      by_cases h1 : nm_let (bt s (i : Int)) = true
      · simp only [if_pos h1]
        rw [h1, Bool.true_or, Bool.true_and]
        exact hgo
      have h1f : nm_let (bt s (i : Int)) = false := by simpa using h1
      simp only [if_neg h1]
      rw [h1f, Bool.false_or]
      by_cases h2 : (i : Int) = 0
      · simp only [if_pos h2]
        rw [decide_eq_true (show i = 0 by omega)]
        exact Ev.now _
      simp only [if_neg h2]
      rw [decide_eq_false (show ¬ i = 0 by omega), Bool.not_false, Bool.true_and]
      unfold nm_dig
      by_cases h3 : bt s (i : Int) < 48
      · simp only [if_pos h3]
        rw [decide_eq_false (show ¬ 48 ≤ bt s (i : Int) by omega), Bool.false_and, Bool.false_and]
        exact Ev.now _
      simp only [if_neg h3]
      by_cases h4 : bt s (i : Int) > 57
      · simp only [if_pos h4]
        rw [decide_eq_false (show ¬ bt s (i : Int) ≤ 57 by omega), Bool.and_false, Bool.false_and]
        exact Ev.now _
      simp only [if_neg h4]
      rw [decide_eq_true (show 48 ≤ bt s (i : Int) by omega), decide_eq_true (show bt s (i : Int) ≤ 57 by omega), Bool.true_and, Bool.true_and]
      exact hgo
  unfold redlineref17_Name.f nameok
  by_cases h0 : (s.size : Int) = 0
  · simp only [if_pos h0]
    rw [decide_eq_false (show ¬ ¬ s.size = 0 by omega), Bool.false_and, Bool.and_false]
    apply Ev_unfold
    simp only [redlineref17_Name.j0, if_true]
    exact Ev.now _
  · simp only [if_neg h0]
    rw [decide_eq_true (show ¬ s.size = 0 by omega), Bool.true_and]
    apply Ev_unfold
    by_cases h6 : (s.size : Int) > 64
    · rw [decide_eq_true h6, decide_eq_false (show ¬ s.size ≤ 64 by omega), Bool.and_false]
      simp only [redlineref17_Name.j0, if_true]
      exact Ev.now _
    · rw [decide_eq_false h6, decide_eq_true (show s.size ≤ 64 by omega), Bool.and_true]
      simp only [redlineref17_Name.j0, Bool.false_eq_true, if_false]
      have := go s.size 0 (by omega)
      rw [List.drop_zero] at this
      exact this
theorem name_p (s : ByteArray) (hs : s.size ≤ 1000000000000000) : views_named.f s = some (nameok s) := if_pos hs
end H17
end Go.Proofs.Ytnbeppnpfdempaa.Q
