/- plain: the runs of two texts, and the program's Best -/
import Derived.Test.YtdcldoembdifpaaZRQa
import Derived.Test.YtdcldoembdifpaaZRXx8
namespace Go.Proofs.Ytdcldoembdifpaa.Q
set_option linter.unusedVariables false
set_option linter.unusedSimpArgs false
open Go.RowKit Go.Proofs.Ytdcldoembdifpaa.X Go.Proofs.YtdcldoembdifpaaW.PrintWords Go.Proofs.YtdcldoembdifpaaW.PrintLast Go.Proofs.YtdcldoembdifpaaW.PrintMore
namespace HB
abbrev Rn := S30
/-- the run at i and j, as the reference begins it -/
def rrun (x y : List Int) (i j : Nat) : Rn := let r := hb_run x y i j (x.length - i) 0 (x.length : Int); ⟨(i : Int), (j : Int), (r.1 : Int), r.2⟩
def skip (x y : List Int) (i j : Nat) : Prop := x.getD i 0 ≠ y.getD j 0 ∨ (0 < i ∧ 0 < j ∧ x.getD (i - 1) 0 = y.getD (j - 1) 0)
instance (x y : List Int) (i j : Nat) : Decidable (skip x y i j) := by unfold skip; exact inferInstance
def rj (x y : List Int) (i : Nat) : Nat → Nat → List Rn
  | 0, _ => []
  | q + 1, j => (if skip x y i j then [] else [rrun x y i j]) ++ rj x y i q (j + 1)
def ri (x y : List Int) : Nat → Nat → List Rn
  | 0, _ => []
  | q + 1, i => rj x y i y.length 0 ++ ri x y q (i + 1)
def fb (b r : Rn) : Rn := if r.f3 < b.f3 ∨ (r.f3 = b.f3 ∧ r.f2 > b.f2) then r else b
def fin (s : HbSt) (r : Rn) : HbSt := if s.2.2.2.2 = false ∨ (if r.f3 = s.2.2.2.1 then r.f2 > s.2.2.1 else r.f3 < s.2.2.2.1) then (r.f0, r.f1, r.f2, r.f3, true) else s
theorem fold_fin : ∀ (T : List Rn) (b : Rn), T.foldl fin (b.f0, b.f1, b.f2, b.f3, true) = (let r := T.foldl fb b; (r.f0, r.f1, r.f2, r.f3, true)) := by
  intro T
  induction T with
  | nil => intro b; rfl
  | cons r T ih =>
    intro b
    rw [List.foldl_cons, List.foldl_cons]
    have e : fin (b.f0, b.f1, b.f2, b.f3, true) r = ((fb b r).f0, (fb b r).f1, (fb b r).f2, (fb b r).f3, true) := by
      unfold fin fb
      dsimp only
      by_cases h : r.f3 = b.f3
      · by_cases h2 : r.f2 > b.f2
        · rw [if_pos (.inr (by rw [if_pos h]; exact h2)), if_pos (.inr ⟨h, h2⟩)]
        · rw [if_neg (by rintro (h3 | h3); cases h3; rw [if_pos h] at h3; exact h2 h3), if_neg (by rintro (h3 | h3); omega; exact h2 h3.2)]
      · by_cases h2 : r.f3 < b.f3
        · rw [if_pos (.inr (by rw [if_neg h]; exact h2)), if_pos (.inl h2)]
        · rw [if_neg (by rintro (h3 | h3); cases h3; rw [if_neg h] at h3; exact h2 h3), if_neg (by rintro (h3 | h3); exact h2 h3; exact h h3.1)]
    rw [e]
    exact ih (fb b r)
theorem run_start (x y : List Int) (i j : Nat) (hi : i < x.length) (hj : j < y.length) (h : x.getD i 0 = y.getD j 0) :
    hb_run x y i j (x.length - i) 0 (hb_cnt x (y.getD j 0)) = hb_run x y i j (x.length - i) 0 (x.length : Int) := by
  obtain ⟨q, hq⟩ : ∃ q, x.length - i = q + 1 := ⟨x.length - i - 1, by omega⟩
  have hc := hb_cnt_bound x (y.getD j 0)
  rw [hq, hb_run, hb_run, if_pos ⟨by omega, by omega, h⟩, if_pos ⟨by omega, by omega, h⟩]
  have e : mn (hb_cnt x (y.getD j 0)) (hb_cnt x (x.getD (i + 0) 0)) = mn (x.length : Int) (hb_cnt x (x.getD (i + 0) 0)) := by
    rw [Nat.add_zero, h]
    unfold mn
    split <;> split <;> omega
  rw [e]
theorem js_eq (x y : List Int) (i : Nat) (hi : i < x.length) : ∀ q j s, j + q = y.length → hb_js x y i q j s = (rj x y i q j).foldl fin s := by
  intro q
  induction q with
  | zero => intro j s _; rfl
  | succ q ih =>
    intro j s hj
    rw [hb_js, rj, List.foldl_append, ih (j + 1) _ (by omega)]
    congr 1
    unfold hb_step
    by_cases h : skip x y i j
    · rw [if_pos h, if_pos (show _ ∨ _ from h)]; rfl
    · have h1 : x.getD i 0 = y.getD j 0 := by
        by_cases e : x.getD i 0 = y.getD j 0
        · exact e
        · exact absurd (Or.inl e) h
      rw [if_neg h, if_neg (show ¬ (_ ∨ _) from h), List.foldl_cons, List.foldl_nil, run_start x y i j hi (by omega) h1]
      rfl
theorem is_eq (x y : List Int) : ∀ q i s, i + q = x.length → hb_is x y q i s = (ri x y q i).foldl fin s := by
  intro q
  induction q with
  | zero => intro i s _; rfl
  | succ q ih =>
    intro i s hi
    rw [hb_is, ri, List.foldl_append, ih (i + 1) _ (by omega), js_eq x y i (by omega) _ _ _ (by omega)]
end HB
end Go.Proofs.Ytdcldoembdifpaa.Q
