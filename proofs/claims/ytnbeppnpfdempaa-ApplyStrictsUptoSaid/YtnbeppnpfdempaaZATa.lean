/- plain: which lines are a text; rows that are equal; lines that stand at a place -/
import Derived.Test.YtnbeppnpfdempaaZAVj
import Derived.Test.YtnbeppnpfdempaaZAXx33
import Derived.Test.YtnbeppnpfdempaaZAXx48
import Derived.Test.YtnbeppnpfdempaaZAXx49
import Derived.Test.YtnbeppnpfdempaaZAXx50
import Derived.Test.YtnbeppnpfdempaaZAXx51
import Derived.Test.YtnbeppnpfdempaaZAXx53
import Derived.Test.YtnbeppnpfdempaaZAXx54
import Derived.Test.YtnbeppnpfdempaaZAXx64
import Derived.Test.YtnbeppnpfdempaaZAXx65
namespace Go.Proofs.Ytnbeppnpfdempaa.Q
set_option linter.unusedVariables false
set_option linter.unusedSimpArgs false
open Go.RowKit Go.Proofs.Ytnbeppnpfdempaa.X Go.Proofs.YtnbeppnpfdempaaW.PrintWords Go.Proofs.YtnbeppnpfdempaaW.PrintLast Go.Proofs.YtnbeppnpfdempaaW.PrintMore
namespace H19
open H12
abbrev be : ByteArray := ByteArray.empty
theorem rdS_nat (l : List ByteArray) (i : Nat) : rdOf be l (i : Int) = l.getD i be := by
  have h : ∀ j : Int, j = (i : Int) → rdOf be l j = l.getD i be := by
    intro j h
    subst h
    rfl
  exact h _ rfl
theorem dropS (l : List ByteArray) (i : Nat) (h : i < l.length) : l.drop i = l.getD i be :: l.drop (i + 1) := by
  rw [List.drop_eq_getElem_cons h]; simp [List.getD_eq_getElem?_getD, h]
theorem getS_mem (l : List ByteArray) (i : Nat) (h : i < l.length) : l.getD i be ∈ l := by
  rw [List.getD_eq_getElem?_getD, List.getElem?_eq_getElem h]
  exact List.getElem_mem h
/-- lines of a text -/
def okl : List ByteArray → Bool
  | [] => true
  | s :: l => lk s && (fd s || l.isEmpty) && okl l
def ckl (a : List ByteArray) : Int := if okl a = true then 0 else 6
theorem lk_eq (s : ByteArray) (hs : s.size ≤ 1000000000000000000) : lk s = true ↔ 0 < s.size ∧ (0 ≤ ixb s → ixb s = ((s.size - 1 : Nat) : Int)) := by
  unfold lk
  rw [decide_eq_true_iff, lne]
  constructor
  · intro ⟨h0, h1⟩
    have w1 : wrap64 ((s.size : Int) - 1) = ((s.size - 1 : Nat) : Int) := by rw [w64 _ (by omega)]; omega
    rw [w1] at h1
    refine ⟨h0, fun h2 => ?_⟩
    rcases ixb_cases s with ⟨a1, a2⟩ | ⟨o, a1, a2, a3, a4⟩ <;> omega
  · intro ⟨h0, h1⟩
    have w1 : wrap64 ((s.size : Int) - 1) = ((s.size - 1 : Nat) : Int) := by rw [w64 _ (by omega)]; omega
    rw [w1]
    refine ⟨h0, fun h2 => ?_⟩
    have := h1 h2.1
    omega
section
variable (x : List ByteArray) (hl : x.length ≤ 1000000000000000) (hs : ∀ s ∈ x, s.size ≤ 1000000000000000000)
include hl hs
theorem chk_p0 : ∀ (d i : Nat), i + d = x.length → Ev (fun k => lines_Check.l0 k x x (x.length : Int) (i : Int)) (ckl (x.drop i)) := by
  intro d
  induction d with
  | zero =>
    intro i hi
    apply Ev_unfold
    rw [List.drop_eq_nil_of_le (show x.length ≤ i by omega)]
    simp only [lines_Check.l0, if_neg (show ¬ (i : Int) < (x.length : Int) by omega)]
    exact Ev.now _
  | succ d ih =>
    intro i hi
    apply Ev_unfold
    have o2 : i < 4611686018427387904 := by omega
    rw [dropS x i (by omega)]
    obtain ⟨s, hsd⟩ : ∃ s, x.getD i be = s := ⟨_, rfl⟩
    have hsz := hs s (hsd ▸ getS_mem x i (by omega))
    have hlk := lk_eq s hsz
    have hix : strings_Index.f s (⟨#[10]⟩ : ByteArray) = some (ixb s) := rfl
    have hlast : ((i : Int) = wrap64 ((x.length : Int) - 1)) ↔ (x.drop (i + 1)).isEmpty = true := by
      rw [w64 _ (by omega), List.isEmpty_iff, List.drop_eq_nil_iff]
      omega
    simp only [lines_Check.l0, if_pos (show (i : Int) < (x.length : Int) by omega), if_pos (show (0 : Int) ≤ (i : Int) by omega), rdS_nat, hsd, hix, bsome, wadd i o2]
    unfold ckl
    have ih2 := ih (i + 1) (by omega)
    unfold ckl at ih2
    by_cases h1 : s.toList = []
    · have e : lk s = false := Bool.eq_false_iff.mpr (fun e => (lne s).2 (hlk.1 e).1 h1)
      simp only [if_pos h1, okl, e, Bool.false_and, Bool.false_eq_true, if_false]
      exact Ev.now _
    have h0 : 0 < s.size := (lne s).1 h1
    have w1 : wrap64 ((s.size : Int) - 1) = ((s.size - 1 : Nat) : Int) := by rw [w64 _ (by omega)]; omega
    simp only [if_neg h1, w1]
    by_cases h2 : ixb s ≥ 0
    · have ef : fd s = true := decide_eq_true h2
      by_cases h3 : ixb s = ((s.size - 1 : Nat) : Int)
      · have e : lk s = true := hlk.2 ⟨h0, fun _ => h3⟩
        simp only [if_pos h2, if_pos h3, if_neg (show ¬ ixb s < 0 by omega), okl, e, ef, Bool.true_or, Bool.true_and]
        exact ih2
      · have e : lk s = false := Bool.eq_false_iff.mpr (fun e => h3 ((hlk.1 e).2 h2))
        simp only [if_pos h2, if_neg h3, okl, e, Bool.false_and, Bool.false_eq_true, if_false]
        exact Ev.now _
    · have ef : fd s = false := decide_eq_false h2
      have e : lk s = true := hlk.2 ⟨h0, fun h => absurd h h2⟩
      simp only [if_neg h2, if_pos (show ixb s < 0 by omega), okl, e, ef, Bool.false_or, Bool.true_and]
      by_cases h4 : (i : Int) = wrap64 ((x.length : Int) - 1)
      · simp only [if_pos h4, hlast.1 h4, Bool.true_and]
        exact ih2
      · have e4 : (x.drop (i + 1)).isEmpty = false := Bool.eq_false_iff.mpr (fun e => h4 (hlast.2 e))
        simp only [if_neg h4, e4, Bool.false_and, Bool.false_eq_true, if_false]
        exact Ev.now _
theorem chk_p : Ev (fun k => lines_Check.f k x) (ckl x) := by
  unfold lines_Check.f
  exact chk_p0 x hl hs x.length 0 (by omega)
theorem chk_r1 (i : Nat) (hi : i < x.length) (hn : Ev (fun k => redlineref02_Check.l0 k x ((i + 1 : Nat) : Int)) (ckl (x.drop (i + 1)))) :
    ∀ (d j : Nat), (j + d = (x.getD i be).size - 1) → (∀ t : Nat, t < j → (x.getD i be).data.toList[t]? ≠ some 10) → Ev (fun k => redlineref02_Check.l1 k x (i : Int) (j : Int)) (ckl (x.drop i)) := by
  rw [dropS x i hi]
  obtain ⟨s, hsd⟩ : ∃ s, x.getD i be = s := ⟨_, rfl⟩
  rw [hsd]
  have hsz := hs s (hsd ▸ getS_mem x i hi)
  have hlk := lk_eq s hsz
  have o2 : i < 4611686018427387904 := by omega
  intro d
  induction d with
  | zero =>
    intro j hj hno
    apply Ev_unfold
    have hjw : ¬ (j : Int) < wrap64 ((s.size : Int) - 1) := by rw [w64 _ (by omega)]; omega
    simp only [redlineref02_Check.l1, if_pos (show (0 : Int) ≤ (i : Int) by omega), if_pos (show (i : Int) < (x.length : Int) by omega), rdS_nat, hsd, if_neg hjw, wadd i o2]
    unfold ckl at hn ⊢
    by_cases h0 : (s.size : Int) = 0
    · have e : lk s = false := Bool.eq_false_iff.mpr (fun e => by have := (hlk.1 e).1; omega)
      simp only [if_pos h0, okl, e, Bool.false_and, Bool.false_eq_true, if_false]
      exact Ev.now _
    have h1 : 0 < s.size := by omega
    have w1 : wrap64 ((s.size : Int) - 1) = ((s.size - 1 : Nat) : Int) := by rw [w64 _ (by omega)]; omega
    have hb := bt_ten s (s.size - 1) (by omega)
    have e : lk s = true := hlk.2 ⟨h1, fun h => by
      rcases ixb_cases s with ⟨a1, a2⟩ | ⟨o, a1, a2, a3, a4⟩
      · omega
      · by_cases ho : o < j
        · exact absurd a3 (hno o ho)
        · omega⟩
    have ef : fd s = true ↔ bt s ((s.size - 1 : Nat) : Int) = 10 := by
      unfold fd
      rw [decide_eq_true_iff, hb]
      rcases ixb_cases s with ⟨a1, a2⟩ | ⟨o, a1, a2, a3, a4⟩
      · exact ⟨fun h => by omega, fun h => absurd h (a2 _)⟩
      · have ho : o = s.size - 1 := by
          by_cases ho : o < j
          · exact absurd a3 (hno o ho)
          · omega
        exact ⟨fun _ => ho ▸ a3, fun _ => by omega⟩
    simp only [if_neg h0, w1, okl, e, Bool.true_and]
    by_cases h2 : (i : Int) < wrap64 ((x.length : Int) - 1)
    · have e4 : (x.drop (i + 1)).isEmpty = false := by
        rw [w64 _ (by omega)] at h2
        refine Bool.eq_false_iff.mpr (fun e => ?_)
        rw [List.isEmpty_iff, List.drop_eq_nil_iff] at e
        omega
      simp only [if_pos h2, if_pos (show (0 : Int) ≤ ((s.size - 1 : Nat) : Int) by omega), if_pos (show ((s.size - 1 : Nat) : Int) < (s.size : Int) by omega), e4, Bool.or_false]
      by_cases h3 : bt s ((s.size - 1 : Nat) : Int) = 10
      · simp only [if_pos h3, ef.2 h3, Bool.true_and]
        exact hn
      · have ef2 : fd s = false := Bool.eq_false_iff.mpr (fun e => h3 (ef.1 e))
        simp only [if_neg h3, ef2, Bool.false_and, Bool.false_eq_true, if_false]
        exact Ev.now _
    · have e4 : (x.drop (i + 1)).isEmpty = true := by
        rw [w64 _ (by omega)] at h2
        rw [List.isEmpty_iff, List.drop_eq_nil_iff]
        omega
      simp only [if_neg h2, e4, Bool.or_true, Bool.true_and]
      exact hn
  | succ d ih =>
    intro j hj hno
    apply Ev_unfold
    have w1 : wrap64 ((s.size : Int) - 1) = ((s.size - 1 : Nat) : Int) := by rw [w64 _ (by omega)]; omega
    have oj : j < 4611686018427387904 := by omega
    simp only [redlineref02_Check.l1, if_pos (show (0 : Int) ≤ (i : Int) by omega), if_pos (show (i : Int) < (x.length : Int) by omega), rdS_nat, hsd, w1, if_pos (show (j : Int) < ((s.size - 1 : Nat) : Int) by omega), if_pos (show (0 : Int) ≤ (j : Int) by omega), if_pos (show (j : Int) < (s.size : Int) by omega), wadd j oj]
    have hb := bt_ten s j (by omega)
    by_cases h3 : bt s (j : Int) = 10
    · have e : lk s = false := by
        refine Bool.eq_false_iff.mpr (fun e => ?_)
        obtain ⟨g1, g2⟩ := hlk.1 e
        rcases ixb_cases s with ⟨a1, a2⟩ | ⟨o, a1, a2, a3, a4⟩
        · exact a2 j (hb.1 h3)
        · have := g2 (by omega)
          exact a4 j (by omega) (hb.1 h3)
      simp only [if_pos h3]
      unfold ckl
      simp only [okl, e, Bool.false_and, Bool.false_eq_true, if_false]
      exact Ev.now _
    · simp only [if_neg h3]
      exact ih (j + 1) (by omega) (fun t ht => by
        by_cases he : t = j
        · subst he; exact fun h => h3 (hb.2 h)
        · exact hno t (by omega))
theorem chk_r0 : ∀ (d i : Nat), i + d = x.length → Ev (fun k => redlineref02_Check.l0 k x (i : Int)) (ckl (x.drop i)) := by
  intro d
  induction d with
  | zero =>
    intro i hi
    apply Ev_unfold
    rw [List.drop_eq_nil_of_le (show x.length ≤ i by omega)]
    simp only [redlineref02_Check.l0, if_neg (show ¬ (i : Int) < (x.length : Int) by omega)]
    exact Ev.now _
  | succ d ih =>
    intro i hi
    apply Ev_unfold
    simp only [redlineref02_Check.l0, if_pos (show (i : Int) < (x.length : Int) by omega)]
    exact chk_r1 x hl hs i (by omega) (ih (i + 1) (by omega)) ((x.getD i be).size - 1) 0 (by omega) (fun t ht => absurd ht (Nat.not_lt_zero t))
theorem chk_r : Ev (fun k => redlineref02_Check.f k x) (ckl x) := by
  unfold redlineref02_Check.f
  exact chk_r0 x hl hs x.length 0 (by omega)
theorem checked_p : Ev (fun k => apply_checked.f k x) (if okl x = true then (x, 0) else ([], 6)) := by
  unfold apply_checked.f
  refine Ev.bind (chk_p x hl hs) ?_
  unfold ckl
  by_cases h : okl x = true
  · simp only [if_pos h, if_true]; exact Ev.now _
  · simp only [if_neg h, if_neg (show ¬ (6 : Int) = 0 by decide)]; exact Ev.now _
end
/-! equal rows -/
theorem str_eq (a b : ByteArray) : a.toList = b.toList ↔ a = b := ⟨fun h => Go.WideShapes.bytes_inj (by rw [← Lib.toList_data, ← Lib.toList_data]; exact h), fun h => by rw [h]⟩
theorem eq_p (x y : List ByteArray) (hl : x.length ≤ 1000000000000000) : Ev (fun k => slices_Equal_string_string.f k x y) (decide (x = y)) := by
  have go : x.length = y.length → ∀ (d i : Nat), i + d = x.length → Ev (fun k => slices_Equal_string_string.l0 k x y (x.length : Int) (i : Int)) (decide (x.drop i = y.drop i)) := by
    intro he d
    induction d with
    | zero =>
      intro i hi
      apply Ev_unfold
      rw [List.drop_eq_nil_of_le (show x.length ≤ i by omega), List.drop_eq_nil_of_le (show y.length ≤ i by omega), decide_eq_true rfl]
      simp only [slices_Equal_string_string.l0, if_neg (show ¬ (i : Int) < (x.length : Int) by omega)]
      exact Ev.now _
    | succ d ih =>
      intro i hi
      apply Ev_unfold
      have o2 : i < 4611686018427387904 := by omega
      rw [dropS x i (by omega), dropS y i (by omega)]
      simp only [slices_Equal_string_string.l0, if_pos (show (i : Int) < (x.length : Int) by omega), if_pos (show (0 : Int) ≤ (i : Int) by omega), if_pos (show (i : Int) < (y.length : Int) by omega), rdS_nat, wadd i o2]
      by_cases h : (x.getD i be).toList = (y.getD i be).toList
      · simp only [if_pos h]
        have h2 := (str_eq _ _).1 h
        rw [h2]
        simp only [List.cons.injEq, true_and]
        exact ih (i + 1) (by omega)
      · simp only [if_neg h]
        rw [decide_eq_false (fun e => h ((str_eq _ _).2 (by injection e)))]
        exact Ev.now _
  unfold slices_Equal_string_string.f
  by_cases h : (x.length : Int) = (y.length : Int)
  · simp only [if_pos h]
    exact go (by omega) x.length 0 (by omega)
  · simp only [if_neg h]
    rw [decide_eq_false (fun e => h (by rw [e]))]
    exact Ev.now _
theorem eq_r (x y : List ByteArray) (hl : x.length ≤ 1000000000000000) : Ev (fun k => redlineref01_SameStrings.f k x y) (decide (x = y)) := by
  have go : x.length = y.length → ∀ (d i : Nat), i + d = x.length → Ev (fun k => redlineref01_SameStrings.l0 k x y (i : Int)) (decide (x.drop i = y.drop i)) := by
    intro he d
    induction d with
    | zero =>
      intro i hi
      apply Ev_unfold
      rw [List.drop_eq_nil_of_le (show x.length ≤ i by omega), List.drop_eq_nil_of_le (show y.length ≤ i by omega), decide_eq_true rfl]
      simp only [redlineref01_SameStrings.l0, if_neg (show ¬ (i : Int) < (x.length : Int) by omega)]
      exact Ev.now _
    | succ d ih =>
      intro i hi
      apply Ev_unfold
      have o2 : i < 4611686018427387904 := by omega
      rw [dropS x i (by omega), dropS y i (by omega)]
      simp only [redlineref01_SameStrings.l0, if_pos (show (i : Int) < (x.length : Int) by omega), if_pos (show (0 : Int) ≤ (i : Int) by omega), if_pos (show (i : Int) < (y.length : Int) by omega), rdS_nat, wadd i o2]
      by_cases h : (x.getD i be).toList = (y.getD i be).toList
      · simp only [if_pos h]
        have h2 := (str_eq _ _).1 h
        rw [h2]
        simp only [List.cons.injEq, true_and]
        exact ih (i + 1) (by omega)
      · simp only [if_neg h]
        rw [decide_eq_false (fun e => h ((str_eq _ _).2 (by injection e)))]
        exact Ev.now _
  unfold redlineref01_SameStrings.f
  by_cases h : (x.length : Int) = (y.length : Int)
  · simp only [if_pos h]
    exact go (by omega) x.length 0 (by omega)
  · simp only [if_neg h]
    rw [decide_eq_false (fun e => h (by rw [e]))]
    exact Ev.now _
/-! lines that stand at a place -/
def stn (a : List ByteArray) (p : Int) (w : List ByteArray) : Bool := decide (0 ≤ p) && (decide (p ≤ (a.length : Int)) && (decide ((w.length : Int) ≤ (a.length : Int) - p) && decide ((a.take (p + (w.length : Int)).toNat).drop p.toNat = w)))
theorem stands_any (g : Nat → List ByteArray → List ByteArray → Option Bool) (a w : List ByteArray) (p : Int) (hl : a.length ≤ 1000000000000000) (hg : ∀ x : List ByteArray, x.length ≤ 1000000000000000 → Ev (fun k => g k x w) (decide (x = w)))
    : Ev (fun k => if p ≥ 0 then (if p ≤ (a.length : Int) then (if (w.length : Int) ≤ (wrap64 ((a.length : Int) - p)) then (if 0 ≤ p then (if p ≤ (wrap64 (p + (w.length : Int))) then (if (wrap64 (p + (w.length : Int))) ≤ (a.length : Int) then ((g k ((a.take ((wrap64 (p + (w.length : Int))) : Int).toNat).drop (p : Int).toNat) w).bind fun t => (some t)) else (none)) else (none)) else (none)) else (some false)) else (some false)) else (some false)) (stn a p w) := by
  unfold stn
  by_cases h1 : p ≥ 0
  case neg => simp only [if_neg h1, decide_eq_false h1, Bool.false_and]; exact Ev.now _
  by_cases h2 : p ≤ (a.length : Int)
  case neg => simp only [if_pos h1, if_neg h2, decide_eq_false h2, Bool.false_and, Bool.and_false]; exact Ev.now _
  have e1 : wrap64 ((a.length : Int) - p) = (a.length : Int) - p := w64 _ (by omega)
  by_cases h3 : (w.length : Int) ≤ (a.length : Int) - p
  case neg => simp only [if_pos h1, if_pos h2, e1, if_neg h3, decide_eq_false h3, Bool.false_and, Bool.and_false]; exact Ev.now _
  have e2 : wrap64 (p + (w.length : Int)) = p + (w.length : Int) := w64 _ (by omega)
  simp only [if_pos h1, if_pos h2, e1, if_pos h3, e2, if_pos (show p ≤ p + (w.length : Int) by omega), if_pos (show p + (w.length : Int) ≤ (a.length : Int) by omega), decide_eq_true (show 0 ≤ p from h1), decide_eq_true h2, decide_eq_true h3, Bool.true_and]
  refine Ev.bind (hg _ (by rw [List.length_drop, List.length_take]; omega)) ?_
  exact Ev.now _
theorem stands_p (a w : List ByteArray) (p : Int) (hl : a.length ≤ 1000000000000000) : Ev (fun k => apply_stands.f k a p w) (stn a p w) := by
  unfold apply_stands.f
  exact stands_any (fun k x w => slices_Equal_string_string.f k x w) a w p hl (fun x hx => eq_p x w hx)
theorem stands_r (a w : List ByteArray) (p : Int) (hl : a.length ≤ 1000000000000000) : Ev (fun k => redlineref19_stands.f k a p w) (stn a p w) := by
  unfold redlineref19_stands.f
  exact stands_any (fun k x w => redlineref01_SameStrings.f k x w) a w p hl (fun x hx => eq_r x w hx)
end H19
end Go.Proofs.Ytnbeppnpfdempaa.Q
