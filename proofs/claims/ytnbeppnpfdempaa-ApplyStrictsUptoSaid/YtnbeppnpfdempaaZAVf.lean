/- plain: what is wrong with a row of hunks: the program's answer and the reference's -/
import Derived.Test.YtnbeppnpfdempaaZAVe
import Derived.Test.YtnbeppnpfdempaaZAXx46
import Derived.Test.YtnbeppnpfdempaaZAXx47
import Derived.Test.YtnbeppnpfdempaaZAXx54
import Derived.Test.YtnbeppnpfdempaaZAXx63
namespace Go.Proofs.Ytnbeppnpfdempaa.Q
set_option linter.unusedVariables false
set_option linter.unusedSimpArgs false
open Go.RowKit Go.Proofs.Ytnbeppnpfdempaa.X Go.Proofs.YtnbeppnpfdempaaW.PrintWords Go.Proofs.YtnbeppnpfdempaaW.PrintLast Go.Proofs.YtnbeppnpfdempaaW.PrintMore
namespace H12
abbrev Hk := S57
abbrev zh : Hk := z57
theorem rdHk_nat (l : List Hk) (i : Nat) : rd_T57 l (i : Int) = l.getD i zh := by
  have h : ∀ j : Int, j = (i : Int) → rd_T57 l j = l.getD i zh := by
    intro j h
    subst h
    rfl
  exact h _ rfl
theorem dropHk (l : List Hk) (i : Nat) (h : i < l.length) : l.drop i = l.getD i zh :: l.drop (i + 1) := by
  rw [List.drop_eq_getElem_cons h]; simp [List.getD_eq_getElem?_getD, h]
theorem getHk_mem (l : List Hk) (i : Nat) (h : i < l.length) : l.getD i zh ∈ l := by
  rw [List.getD_eq_getElem?_getD, List.getElem?_eq_getElem h]
  exact List.getElem_mem h
def ckh (h : Hk) : Int := ck h.f0 h.f1 h.f2 h.f3 h.f4
/-- the first wrong one -/
def cks : List Hk → Int
  | [] => 0
  | h :: l => if ckh h = 0 then cks l else ckh h
def pa (h : Hk) : Int := wrap64 (h.f0 - mn 1 h.f1)
def pb (h : Hk) : Int := wrap64 (h.f2 - mn 1 h.f3)
def ords : Int → Int → List Hk → Int
  | _, _, [] => 0
  | x, y, h :: l => if pa h < x then 121 else if wrap64 (pa h - x) = wrap64 (pb h - y) then ords (wrap64 (pa h + h.f1)) (wrap64 (pb h + h.f3)) l else 121
def ordo (l : List Hk) : Int := if cks l = 0 then ords 0 0 l else cks l
theorem ck_small {h : Hk} (e : ckh h = 0) : Sm h.f0 ∧ Sm h.f1 ∧ Sm h.f2 ∧ Sm h.f3 := by
  unfold ckh ck at e
  by_cases hb : badr h.f0 h.f1 h.f2 h.f3
  · rw [if_pos hb] at e; omega
  · exact Classical.not_not.1 (fun hn => hb (.inl hn))
theorem cks_all : ∀ {l : List Hk}, cks l = 0 → ∀ h ∈ l, ckh h = 0
  | [], _, h, hh => by cases hh
  | h0 :: l, e, h, hh => by
    rw [cks] at e
    by_cases h1 : ckh h0 = 0
    · rw [if_pos h1] at e
      cases hh with
      | head => exact h1
      | tail _ hh => exact cks_all e h hh
    · rw [if_neg h1] at e; exact absurd e h1
theorem at_eq (h : Hk) (s : Sm h.f0 ∧ Sm h.f1 ∧ Sm h.f2 ∧ Sm h.f3) : redlineref11_At.f h.f0 h.f1 h.f2 h.f3 h.f4 = some (pa h, pb h) := by
  unfold redlineref11_At.f pa pb
  obtain ⟨s0, s1, s2, s3⟩ := s
  unfold Sm at s0 s1 s2 s3
  have m1 : mn 1 h.f1 = if h.f1 > 0 then 1 else 0 := by unfold mn; split <;> split <;> omega
  have m2 : mn 1 h.f3 = if h.f3 > 0 then 1 else 0 := by unfold mn; split <;> split <;> omega
  rw [m1, m2]
  by_cases h1 : h.f1 > 0
  · by_cases h2 : h.f3 > 0
    · simp only [if_pos h1, if_pos h2]
    · simp only [if_pos h1, if_neg h2, Int.sub_zero, w64 h.f2 (by omega)]
  · by_cases h2 : h.f3 > 0
    · simp only [if_neg h1, if_pos h2, Int.sub_zero, w64 h.f0 (by omega)]
    · simp only [if_neg h1, if_neg h2, Int.sub_zero, w64 h.f0 (by omega), w64 h.f2 (by omega)]
section
variable (l : List Hk) (hll : l.length ≤ 1000000000000000) (hl : ∀ h ∈ l, h.f4.length ≤ 8000000000000) (hs : ∀ h ∈ l, ∀ m ∈ h.f4, m.f1.size ≤ 1000000000000000000)
include hll
theorem ord_p1 : ∀ (d i : Nat) (x y : Int), i + d = l.length → Ev (fun k => hunks_Order.l1 k x y l (l.length : Int) (i : Int)) (ords x y (l.drop i)) := by
  intro d
  induction d with
  | zero =>
    intro i x y hi
    apply Ev_unfold
    rw [List.drop_eq_nil_of_le (show l.length ≤ i by omega)]
    simp only [hunks_Order.l1, if_neg (show ¬ (i : Int) < (l.length : Int) by omega)]
    exact Ev.now _
  | succ d ih =>
    intro i x y hi
    apply Ev_unfold
    rw [dropHk l i (by omega), ords]
    have o2 : i < 4611686018427387904 := by omega
    obtain ⟨h, hh⟩ : ∃ h, l.getD i zh = h := ⟨_, rfl⟩
    have hst : hunks_stands.f h.f0 h.f1 h.f2 h.f3 h.f4 = some (pa h, pb h) := rfl
    simp only [hunks_Order.l1, if_pos (show (i : Int) < (l.length : Int) by omega), if_pos (show (0 : Int) ≤ (i : Int) by omega), rdHk_nat, hh, hst, bsome, wadd i o2]
    by_cases h1 : pa h < x
    · simp only [if_pos h1]; exact Ev.now _
    · simp only [if_neg h1]
      by_cases h2 : wrap64 (pa h - x) = wrap64 (pb h - y)
      · simp only [if_pos h2]
        exact ih (i + 1) _ _ (by omega)
      · simp only [if_neg h2]; exact Ev.now _
theorem ord_r1 (hc : ∀ h ∈ l, ckh h = 0) : ∀ (d i : Nat) (x y : Int), i + d = l.length → Ev (fun k => redlineref11_Order.l1 k l x y (i : Int)) (ords x y (l.drop i)) := by
  intro d
  induction d with
  | zero =>
    intro i x y hi
    apply Ev_unfold
    rw [List.drop_eq_nil_of_le (show l.length ≤ i by omega)]
    simp only [redlineref11_Order.l1, if_neg (show ¬ (i : Int) < (l.length : Int) by omega)]
    exact Ev.now _
  | succ d ih =>
    intro i x y hi
    apply Ev_unfold
    rw [dropHk l i (by omega), ords]
    have o2 : i < 4611686018427387904 := by omega
    obtain ⟨h, hh⟩ : ∃ h, l.getD i zh = h := ⟨_, rfl⟩
    have hst := at_eq h (ck_small (hc h (hh ▸ getHk_mem l i (by omega))))
    simp only [redlineref11_Order.l1, if_pos (show (i : Int) < (l.length : Int) by omega), if_pos (show (0 : Int) ≤ (i : Int) by omega), rdHk_nat, hh, hst, bsome, wadd i o2]
    by_cases h1 : pa h < x
    · simp only [if_pos h1]; exact Ev.now _
    · simp only [if_neg h1]
      by_cases h2 : wrap64 (pa h - x) = wrap64 (pb h - y)
      · simp only [if_pos h2]
        exact ih (i + 1) _ _ (by omega)
      · simp only [if_neg h2]; exact Ev.now _
include hl
theorem ord_p0 : ∀ (d i : Nat), i + d = l.length → Ev (fun k => hunks_Order.l0 k l l (l.length : Int) (i : Int)) (if cks (l.drop i) = 0 then ords 0 0 l else cks (l.drop i)) := by
  intro d
  induction d with
  | zero =>
    intro i hi
    apply Ev_unfold
    rw [List.drop_eq_nil_of_le (show l.length ≤ i by omega), cks, if_pos rfl]
    simp only [hunks_Order.l0, if_neg (show ¬ (i : Int) < (l.length : Int) by omega)]
    have := ord_p1 l hll l.length 0 0 0 (by omega)
    rw [List.drop_zero] at this
    exact this
  | succ d ih =>
    intro i hi
    apply Ev_unfold
    rw [dropHk l i (by omega), cks]
    have o2 : i < 4611686018427387904 := by omega
    obtain ⟨h, hh⟩ : ∃ h, l.getD i zh = h := ⟨_, rfl⟩
    simp only [hunks_Order.l0, if_pos (show (i : Int) < (l.length : Int) by omega), if_pos (show (0 : Int) ≤ (i : Int) by omega), rdHk_nat, hh, wadd i o2]
    refine Ev.bind (check_p h.f0 h.f1 h.f2 h.f3 h.f4 (hl h (hh ▸ getHk_mem l i (by omega)))) ?_
    by_cases h1 : ck h.f0 h.f1 h.f2 h.f3 h.f4 = 0
    · rw [if_pos (show ckh h = 0 from h1)]
      simp only [if_pos h1]
      exact ih (i + 1) (by omega)
    · rw [if_neg (show ¬ ckh h = 0 from h1), if_neg (show ¬ ckh h = 0 from h1)]
      simp only [if_neg h1]
      exact Ev.now _
theorem order_p : Ev (fun k => hunks_Order.f k l) (ordo l) := by
  unfold hunks_Order.f ordo
  have := ord_p0 l hll hl l.length 0 (by omega)
  rw [List.drop_zero] at this
  exact this
include hs
theorem ord_r0 : ∀ (d i : Nat), i + d = l.length → (∀ j, j < i → ckh (l.getD j zh) = 0) → Ev (fun k => redlineref11_Order.l0 k l (i : Int)) (if cks (l.drop i) = 0 then ords 0 0 l else cks (l.drop i)) := by
  intro d
  induction d with
  | zero =>
    intro i hi hd
    apply Ev_unfold
    rw [List.drop_eq_nil_of_le (show l.length ≤ i by omega), cks, if_pos rfl]
    simp only [redlineref11_Order.l0, if_neg (show ¬ (i : Int) < (l.length : Int) by omega)]
    have hc : ∀ h ∈ l, ckh h = 0 := fun h hh => by
      obtain ⟨j, hj, e⟩ := List.getElem_of_mem hh
      have := hd j (by omega)
      rw [List.getD_eq_getElem?_getD, List.getElem?_eq_getElem hj, e] at this
      exact this
    have := ord_r1 l hll hc l.length 0 0 0 (by omega)
    rw [List.drop_zero] at this
    exact this
  | succ d ih =>
    intro i hi hd
    apply Ev_unfold
    rw [dropHk l i (by omega), cks]
    have o2 : i < 4611686018427387904 := by omega
    obtain ⟨h, hh⟩ : ∃ h, l.getD i zh = h := ⟨_, rfl⟩
    have hmem : h ∈ l := hh ▸ getHk_mem l i (by omega)
    simp only [redlineref11_Order.l0, if_pos (show (i : Int) < (l.length : Int) by omega), if_pos (show (0 : Int) ≤ (i : Int) by omega), rdHk_nat, hh, wadd i o2]
    refine Ev.bind (check_r h.f0 h.f1 h.f2 h.f3 h.f4 (hl h hmem) (hs h hmem)) ?_
    by_cases h1 : ck h.f0 h.f1 h.f2 h.f3 h.f4 = 0
    · rw [if_pos (show ckh h = 0 from h1)]
      simp only [if_pos h1]
      refine ih (i + 1) (by omega) (fun j hj => ?_)
      by_cases he : j = i
      · subst he; rw [hh]; exact h1
      · exact hd j (by omega)
    · rw [if_neg (show ¬ ckh h = 0 from h1), if_neg (show ¬ ckh h = 0 from h1)]
      simp only [if_neg h1]
      exact Ev.now _
theorem order_r : Ev (fun k => redlineref11_Order.f k l) (ordo l) := by
  unfold redlineref11_Order.f ordo
  have := ord_r0 l hll hl hs l.length 0 (by omega) (fun j hj => by omega)
  rw [List.drop_zero] at this
  exact this
end
end H12
end Go.Proofs.Ytnbeppnpfdempaa.Q
