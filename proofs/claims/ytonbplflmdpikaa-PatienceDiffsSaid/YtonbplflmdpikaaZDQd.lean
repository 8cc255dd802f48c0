/- The least script of the reference: its table, length and script are those of the longest common row. -/
import Derived.Test.YtonbplflmdpikaaZDQb2
import Derived.Test.YtonbplflmdpikaaZDXx33
import Derived.Test.YtonbplflmdpikaaZDXx34
namespace Go.Proofs.Ytonbplflmdpikaa.Q
set_option linter.unusedVariables false
set_option linter.unusedSimpArgs false
open Go.RowKit Go.Proofs.Ytonbplflmdpikaa.X Go.Proofs.YtonbplflmdpikaaW.PrintWords Go.Proofs.YtonbplflmdpikaaW.PrintLast Go.Proofs.YtonbplflmdpikaaW.PrintMore
theorem rdL_nat (l : List (List Int)) (i : Nat) : rd_L5 l (i : Int) = l.getD i [] := by
  have h : ∀ j : Int, j = (i : Int) → rd_L5 l j = l.getD i [] := by
    intro j h
    subst h
    rfl
  exact h _ rfl
theorem getD_set2 {α : Type} (d : α) (T : List α) (a b : Nat) (v : α) (ha : a < T.length) : (T.set a v).getD b d = if a = b then v else T.getD b d := by
  simp only [List.getD_eq_getElem?_getD, List.getElem?_set]
  by_cases h : a = b
  · subst h; simp [ha]
  · simp [h]
theorem mx_nat2 (a b : Nat) : mx (a : Int) (b : Int) = ((max a b : Nat) : Int) := by unfold mx; split <;> omega
theorem wdec (i : Nat) (h : i < 4611686018427387904) : wrap64 ((i : Int) - 1) = (i : Int) - 1 := by
  rw [w64 _ (by omega)]
def RowOK (x y : List Int) (i j0 : Nat) (r : List Int) : Prop := r.length = y.length + 1 ∧ ∀ j, j ≤ y.length → r.getD j 0 = if j0 ≤ j then (L (x.drop i) (y.drop j) : Int) else 0
def Above (x y : List Int) (i : Nat) (T : List (List Int)) : Prop := T.length = x.length + 1 ∧ ∀ i', i ≤ i' → i' ≤ x.length → RowOK x y i' 0 (T.getD i' [])
def tabL (x y : List Int) : List (List Int) := (List.range (x.length + 1)).map fun i => (List.range (y.length + 1)).map fun j => (L (x.drop i) (y.drop j) : Int)
theorem above_eq (x y : List Int) (T : List (List Int)) (h : Above x y 0 T) : T = tabL x y := by
  apply List.ext_getElem
  · rw [h.1]; simp [tabL]
  intro i h1 h2
  have hi := h.2 i (by omega) (by have := h.1; omega)
  rw [List.getD_eq_getElem?_getD, List.getElem?_eq_getElem h1] at hi
  simp only [tabL, List.getElem_map, List.getElem_range]
  apply List.ext_getElem
  · rw [List.length_map, List.length_range]; exact hi.1
  intro j g1 g2
  have hj := hi.2 j (by have := hi.1; simp at this; omega)
  rw [if_pos (by omega), List.getD_eq_getElem?_getD] at hj
  simp only [Option.getD_some] at hj
  rw [List.getElem?_eq_getElem g1] at hj
  simpa using hj
section
variable (x y : List Int) (hx : x.length ≤ 4096) (hy : y.length ≤ 4096)
include hx hy
theorem tab_in (R : List (List Int)) (i : Nat) (hi : i ≤ x.length)
    (H : ∀ T, Above x y i T → Ev (fun k => redlineref06_table.l0 k x y T ((i : Int) - 1)) R) : ∀ (j : Nat) (T : List (List Int)), j ≤ y.length + 1 → Above x y (i + 1) T → RowOK x y i j (T.getD i []) →
    Ev (fun k => redlineref06_table.l1 k x y T (i : Int) ((j : Int) - 1)) R
  | 0, T, hj, hA, hR => by
    have h1 : ¬ ((0 : Nat) : Int) - 1 ≥ 0 := by omega
    apply Ev_unfold
    simp only [redlineref06_table.l1, if_neg h1, wdec i (by omega)]
    refine H T ⟨hA.1, fun i' h1 h2 => ?_⟩
    by_cases e : i' = i
    · subst e; exact hR
    · exact hA.2 i' (by omega) h2
  | j + 1, T, hj, hA, hR => by
    have e0 : ((j + 1 : Nat) : Int) - 1 = (j : Int) := by omega
    have h1 : (j : Int) ≥ 0 := by omega
    have skip : (i = x.length ∨ j = y.length) → Ev (fun k => redlineref06_table.j2 k x y T (i : Int) (j : Int) true) R := by
      intro hs
      apply Ev_unfold
      simp only [redlineref06_table.j2, if_true, wdec j (by omega)]
      refine tab_in R i hi H j T (by omega) hA ⟨hR.1, fun j' hj' => ?_⟩
      rw [hR.2 j' hj']
      by_cases e : j' = j
      · subst e
        rw [if_neg (by omega), if_pos (by omega)]
        rcases hs with hs | hs
        · subst hs; rw [List.drop_length, L_nil_l]; rfl
        · subst hs; rw [List.drop_length, L_nil_r]; rfl
      · by_cases h : j ≤ j'
        · rw [if_pos (by omega), if_pos h]
        · rw [if_neg (by omega), if_neg h]
    rw [e0]
    apply Ev_unfold
    by_cases hi2 : i = x.length
    · simp only [redlineref06_table.l1, if_pos h1, if_pos (show (i : Int) = (x.length : Int) by omega)]
      exact skip (.inl hi2)
    simp only [redlineref06_table.l1, if_pos h1, if_neg (show ¬ (i : Int) = (x.length : Int) by omega)]
    by_cases hj2 : j = y.length
    · rw [show ((j : Int) == (y.length : Int)) = true by rw [beq_iff_eq]; omega]
      exact skip (.inr hj2)
    rw [show ((j : Int) == (y.length : Int)) = false by rw [beq_eq_false_iff_ne]; omega]
    have hT := hA.1
    have r1 := hA.2 (i + 1) (by omega) (by omega)
    have g1 : (0 : Int) ≤ (i : Int) := by omega
    have g2 : (i : Int) < (x.length : Int) := by omega
    have g3 : (0 : Int) ≤ (j : Int) := by omega
    have g4 : (j : Int) < (y.length : Int) := by omega
    have g5 : (i : Int) < (T.length : Int) := by omega
    have g6 : (0 : Int) ≤ ((i + 1 : Nat) : Int) := by omega
    have g7 : ((i + 1 : Nat) : Int) < (T.length : Int) := by omega
    have g8 : (0 : Int) ≤ ((j + 1 : Nat) : Int) := by omega
    have l1 := r1.1
    have l2 := hR.1
    have g9 : ((j + 1 : Nat) : Int) < ((T.getD (i + 1) []).length : Int) := by omega
    have g10 : (j : Int) < ((T.getD i []).length : Int) := by omega
    have g11 : (j : Int) < ((T.getD (i + 1) []).length : Int) := by omega
    have g12 : ((j + 1 : Nat) : Int) < ((T.getD i []).length : Int) := by omega
    have v1 := r1.2 (j + 1) (by omega)
    have v2 := r1.2 j (by omega)
    have v3 := hR.2 (j + 1) (by omega)
    rw [if_pos (by omega)] at v1 v2 v3
    have hl := L_le_l (x.drop (i + 1)) (y.drop (j + 1))
    rw [List.length_drop] at hl
    have step : ∀ v : Int, v = (L (x.drop i) (y.drop j) : Int) → Ev (fun k => redlineref06_table.l1 k x y (T.set i ((T.getD i []).set j v)) (i : Int) ((j : Int) - 1)) R := by
      intro v hv
      refine tab_in R i hi H j _ (by omega) ⟨by rw [List.length_set]; exact hT, fun i' h1 h2 => ?_⟩ ?_
      · rw [getD_set2 _ _ _ _ _ (by omega), if_neg (by omega)]; exact hA.2 i' h1 h2
      · rw [getD_set2 _ _ _ _ _ (by omega), if_pos rfl]
        refine ⟨by rw [List.length_set]; exact l2, fun j' hj' => ?_⟩
        rw [getD_set _ _ _ _ (by omega)]
        by_cases e : j = j'
        · subst e; rw [if_pos rfl, if_pos (by omega), hv]
        · rw [if_neg e, hR.2 j' hj']
          by_cases h : j ≤ j'
          · rw [if_pos (by omega), if_pos h]
          · rw [if_neg (by omega), if_neg h]
    apply Ev_unfold
    simp only [redlineref06_table.j2, Bool.false_eq_true, if_false, if_pos g1, if_pos g2, if_pos g3, if_pos g4, if_pos g5, wadd i (by omega), wadd j (by omega), if_pos g6, if_pos g7, if_pos g8, rdL_nat, rd_nat, if_pos g9, if_pos g10, if_pos g11, if_pos g12, Int.toNat_natCast, v1, v2, v3, wdec j (by omega), mx_nat2]
    have hq0 := L_at x y i j (by omega) (by omega)
    by_cases hq : x.getD i 0 = y.getD j 0
    · simp only [if_pos hq]
      refine step _ ?_
      rw [if_pos hq] at hq0
      rw [w64 _ (by omega), hq0]
      omega
    · simp only [if_neg hq]
      refine step _ ?_
      rw [if_neg hq] at hq0
      rw [hq0]
theorem tab_out : ∀ (i : Nat) (T : List (List Int)), i ≤ x.length + 1 → Above x y i T → Ev (fun k => redlineref06_table.l0 k x y T ((i : Int) - 1)) (tabL x y)
  | 0, T, hi, hA => by
    rw [← above_eq x y T hA]
    have h1 : ¬ ((0 : Nat) : Int) - 1 ≥ 0 := by omega
    apply Ev_unfold
    simp only [redlineref06_table.l0, if_neg h1]
    exact Ev.now _
  | i + 1, T, hi, hA => by
    have hT := hA.1
    have e0 : ((i + 1 : Nat) : Int) - 1 = (i : Int) := by omega
    have h1 : (i : Int) ≥ 0 := by omega
    have h0 : (0 : Int) ≤ (i : Int) := by omega
    have h2 : (i : Int) < (T.length : Int) := by omega
    have g6 : (0 : Int) ≤ ((y.length + 1 : Nat) : Int) := by omega
    have g7 : y.length + 1 ≤ 35184372088832 := by omega
    have hAb : Above x y (i + 1) (T.set i (List.replicate (y.length + 1) 0)) := ⟨by rw [List.length_set]; exact hT, fun i' h1 h2 => by rw [getD_set2 _ _ _ _ _ (by omega), if_neg (by omega)]; exact hA.2 i' h1 h2⟩
    have hRo : RowOK x y i (y.length + 1) ((T.set i (List.replicate (y.length + 1) 0)).getD i []) := by
      rw [getD_set2 _ _ _ _ _ (by omega), if_pos rfl]
      refine ⟨List.length_replicate, fun j hj => ?_⟩
      rw [if_neg (by omega), List.getD_eq_getElem?_getD, List.getElem?_replicate]
      split <;> rfl
    have key := tab_in x y hx hy (tabL x y) i (by omega) (fun T' hA' => tab_out i T' (by omega) hA') (y.length + 1) _ (Nat.le_refl _) hAb hRo
    rw [show ((y.length + 1 : Nat) : Int) - 1 = (y.length : Int) by omega] at key
    rw [e0]
    apply Ev_unfold
    simp only [redlineref06_table.l0, if_pos h1, wadd y.length (by omega), if_pos g6, Int.toNat_natCast, if_pos g7, if_pos h0, if_pos h2]
    exact key
theorem table_ref : Ev (fun k => redlineref06_table.f k x y) (tabL x y) := by
  have g1 : (0 : Int) ≤ ((x.length + 1 : Nat) : Int) := by omega
  have g2 : x.length + 1 ≤ 11728124029610 := by omega
  unfold redlineref06_table.f
  simp only [wadd x.length (by omega), if_pos g1, Int.toNat_natCast, if_pos g2]
  have := tab_out x y hx hy (x.length + 1) (List.replicate (x.length + 1) []) (Nat.le_refl _) ⟨List.length_replicate, fun i' h1 h2 => by omega⟩
  rw [show ((x.length + 1 : Nat) : Int) - 1 = (x.length : Int) by omega] at this
  exact this
omit hx hy in
theorem tabL_at (i j : Nat) (hi : i ≤ x.length) (hj : j ≤ y.length) : ((tabL x y).getD i []).getD j 0 = (L (x.drop i) (y.drop j) : Int) := by
  simp [tabL, List.getD_eq_getElem?_getD, List.getElem?_map, List.getElem?_range, show i < x.length + 1 by omega, show j < y.length + 1 by omega]
omit hx hy in
theorem tabL_len : (tabL x y).length = x.length + 1 := by simp [tabL]
omit hx hy in
theorem tabL_row (i : Nat) (hi : i ≤ x.length) : ((tabL x y).getD i []).length = y.length + 1 := by
  simp [tabL, List.getD_eq_getElem?_getD, List.getElem?_map, List.getElem?_range, show i < x.length + 1 by omega]
theorem keeps_ref : ∀ (d i j : Nat) (done : List Int), (x.length - i) + (y.length - j) ≤ d → i ≤ x.length → j ≤ y.length → done.length = i →
    Ev (fun k => redlineref06_Keeps.l0 k x y (tabL x y) done (j : Int) (i : Int)) (done ++ kp (x.drop i) (y.drop j) j) := by
  have hend : ∀ (i j : Nat) (done : List Int), i = x.length → Ev (fun k => redlineref06_Keeps.l0 k x y (tabL x y) done (j : Int) (i : Int)) (done ++ kp (x.drop i) (y.drop j) j) := by
    intro i j done hi
    have h1 : ¬ (i : Int) < (x.length : Int) := by omega
    rw [List.drop_eq_nil_of_le (show x.length ≤ i by omega), kp_nil, List.append_nil]
    apply Ev_unfold
    simp only [redlineref06_Keeps.l0, if_neg h1]
    exact Ev.now _
  intro d
  induction d with
  | zero =>
    intro i j done hd hi hj hl
    exact hend i j done (by omega)
  | succ d ih =>
    intro i j done hd hi hj hl
    by_cases hi2 : i = x.length
    · exact hend i j done hi2
    have g1 : (i : Int) < (x.length : Int) := by omega
    have gl : done.length < 17592186044416 := by omega
    apply Ev_unfold
    by_cases hj2 : j = y.length
    · simp only [redlineref06_Keeps.l0, if_pos g1, if_pos (show (j : Int) = (y.length : Int) by omega)]
      apply Ev_unfold
      simp only [redlineref06_Keeps.j1, if_true, if_pos gl, wadd i (by omega)]
      have := ih (i + 1) j (done ++ [-1]) (by omega) (by omega) (by omega) (by simp [hl])
      have e : kp (x.drop i) (y.drop j) (j : Int) = -1 :: kp (x.drop (i + 1)) (y.drop j) (j : Int) := by
        rw [List.drop_eq_nil_of_le (show y.length ≤ j by omega), kp_nil_r, kp_nil_r, List.length_drop, List.length_drop, show x.length - i = (x.length - (i + 1)) + 1 by omega, List.replicate_succ]
      rw [e, show done ++ -1 :: kp (x.drop (i + 1)) (y.drop j) (j : Int) = (done ++ [-1]) ++ kp (x.drop (i + 1)) (y.drop j) (j : Int) by simp]
      exact this
    have g2 : (0 : Int) ≤ (i : Int) := by omega
    have g3 : (0 : Int) ≤ (j : Int) := by omega
    have g4 : (j : Int) < (y.length : Int) := by omega
    have n1 : ¬ (j : Int) = (y.length : Int) := by omega
    rw [kp_at x y i j j (by omega) (by omega)]
    by_cases hq : x.getD i 0 = y.getD j 0
    · simp only [redlineref06_Keeps.l0, if_pos g1, if_neg n1, if_pos g2, if_pos g3, if_pos g4, rd_nat, if_pos hq]
      apply Ev_unfold
      simp only [redlineref06_Keeps.j1, Bool.false_eq_true, if_false, if_pos g1, if_pos g2, if_pos g3, if_pos g4, rd_nat, if_pos hq, if_pos gl, wadd i (by omega), wadd j (by omega)]
      have := ih (i + 1) (j + 1) (done ++ [(j : Int)]) (by omega) (by omega) (by omega) (by simp [hl])
      rw [show done ++ (j : Int) :: kp (x.drop (i + 1)) (y.drop (j + 1)) ((j : Int) + 1) = (done ++ [(j : Int)]) ++ kp (x.drop (i + 1)) (y.drop (j + 1)) ((j + 1 : Nat) : Int) by simp]
      exact this
    have g5 : (0 : Int) ≤ ((i + 1 : Nat) : Int) := by omega
    have g6 : ((i + 1 : Nat) : Int) < ((tabL x y).length : Int) := by rw [tabL_len]; omega
    have g7 : (j : Int) < (((tabL x y).getD (i + 1) []).length : Int) := by rw [tabL_row x y (i + 1) (by omega)]; omega
    have g8 : (i : Int) < ((tabL x y).length : Int) := by rw [tabL_len]; omega
    have g9 : (0 : Int) ≤ ((j + 1 : Nat) : Int) := by omega
    have g10 : ((j + 1 : Nat) : Int) < (((tabL x y).getD i []).length : Int) := by rw [tabL_row x y i (by omega)]; omega
    simp only [redlineref06_Keeps.l0, if_pos g1, if_neg n1, if_pos g2, if_pos g3, if_pos g4, rd_nat, if_neg hq, wadd i (by omega), wadd j (by omega), rdL_nat, if_pos g5, if_pos g6, if_pos g7, if_pos g8, if_pos g9, if_pos g10, tabL_at x y (i + 1) j (by omega) (by omega), tabL_at x y i (j + 1) (by omega) (by omega)]
    apply Ev_unfold
    by_cases hg : L (x.drop i) (y.drop (j + 1)) ≤ L (x.drop (i + 1)) (y.drop j)
    · have hd1 : decide (((L (x.drop (i + 1)) (y.drop j) : Nat) : Int) ≥ ((L (x.drop i) (y.drop (j + 1)) : Nat) : Int)) = true := decide_eq_true (by omega)
      simp only [hd1, redlineref06_Keeps.j1, if_true, if_pos gl, wadd i (by omega), if_neg hq, if_pos hg]
      have := ih (i + 1) j (done ++ [-1]) (by omega) (by omega) (by omega) (by simp [hl])
      rw [show done ++ -1 :: kp (x.drop (i + 1)) (y.drop j) (j : Int) = (done ++ [-1]) ++ kp (x.drop (i + 1)) (y.drop j) (j : Int) by simp]
      exact this
    · have hd1 : decide (((L (x.drop (i + 1)) (y.drop j) : Nat) : Int) ≥ ((L (x.drop i) (y.drop (j + 1)) : Nat) : Int)) = false := decide_eq_false (by omega)
      simp only [hd1, redlineref06_Keeps.j1, Bool.false_eq_true, if_false, if_pos g1, if_pos g2, if_pos g3, if_pos g4, rd_nat, if_neg hq, wadd j (by omega), if_neg hg]
      have := ih i (j + 1) done (by omega) (by omega) (by omega) hl
      rw [show ((j + 1 : Nat) : Int) = (j : Int) + 1 by omega] at this ⊢
      exact this
theorem keeps_f : Ev (fun k => redlineref06_Keeps.f k x y) (kp x y 0) := by
  unfold redlineref06_Keeps.f
  refine Ev.bind (table_ref x y hx hy) ?_
  have := keeps_ref x y hx hy _ 0 0 [] (Nat.le_refl _) (by omega) (by omega) rfl
  simpa using this
end
end Go.Proofs.Ytonbplflmdpikaa.Q
