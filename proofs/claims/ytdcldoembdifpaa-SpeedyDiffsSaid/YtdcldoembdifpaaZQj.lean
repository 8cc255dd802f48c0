/- Going through two texts once: what the program and the reference keep, of texts of up to 4096 lines. -/
import Derived.Test.YtdcldoembdifpaaZXx3
namespace Go.Proofs.Ytdcldoembdifpaa.QG
set_option linter.unusedVariables false
set_option linter.unusedSimpArgs false
open Go.RowKit Go.Proofs.Ytdcldoembdifpaa.X Go.Proofs.YtdcldoembdifpaaW.PrintWords Go.Proofs.YtdcldoembdifpaaW.PrintLast Go.Proofs.YtdcldoembdifpaaW.PrintMore
theorem Ev_unfold {α : Type} {g : Nat → Option α} {r : α} (h : Ev (fun k => g (k + 1)) r) : Ev g r := by
  obtain ⟨K, hK⟩ := h
  exact ⟨K + 1, fun k hk => by obtain ⟨j, rfl⟩ : ∃ j, k = j + 1 := ⟨k - 1, by omega⟩; exact hK j (by omega)⟩
theorem rd_nat (xs : List Int) (m : Nat) : rd xs (m : Int) = xs.getD m 0 := rfl
/-- the first place from j on (before place m) at which y has c -/
def seek (y : List Int) (c : Int) (j m : Nat) : Option Nat :=
  if _h : j < m then (if y.getD j 0 = c then some j else seek y c (j + 1) m) else none
termination_by m - j
def lim (y : List Int) (far : Int) (n : Nat) : Nat := min y.length (n + far.toNat)
/-- what one line of x keeps, and where the next one looks -/
def keep1 (y : List Int) (far : Int) (c : Int) (n j : Nat) : Int × Nat :=
  match seek y c j (lim y far n) with
  | some d => ((d : Int), d + 1)
  | none => (-1, n)
def gr (y : List Int) (far : Int) : List Int → Nat → List Int
  | [], _ => []
  | c :: xs, n => (keep1 y far c n n).1 :: gr y far xs (keep1 y far c n n).2
theorem seek_bd (y : List Int) (c : Int) (m : Nat) : ∀ d j, m - j = d → ∀ p, seek y c j m = some p → j ≤ p ∧ p < m := by
  intro d
  induction d with
  | zero => intro j h p hp; rw [seek, dif_neg (by omega)] at hp; cases hp
  | succ d ih =>
    intro j h p hp
    rw [seek, dif_pos (by omega)] at hp
    split at hp
    · cases hp; omega
    · have := ih (j + 1) (by omega) p hp; omega
theorem prog_inner (y x : List Int) (far : Int) (hy : y.length ≤ 4096) (L : Int) (i : Nat) (n : Nat) (hn : n ≤ y.length) (R : List Int) (keep : List Int) (hi : i < keep.length) (c : Int) : ∀ d j, y.length - j = d → n ≤ j → j ≤ y.length →
    Ev (fun k => speedy_Greedy.l0 k y far (keep.set i (keep1 y far c n j).1) ((keep1 y far c n j).2 : Int) x L (wrap64 ((i : Int) + 1))) R →
    Ev (fun k => speedy_Greedy.l1 k y far keep (n : Int) (i : Int) c (j : Int) x L (i : Int)) R := by
  intro d
  induction d with
  | zero =>
    intro j hd hj hle H
    have e : keep1 y far c n j = (-1, n) := by unfold keep1; rw [seek, dif_neg (by unfold lim; omega)]
    rw [e] at H
    apply Ev_unfold
    simp only [speedy_Greedy.l1]
    rw [show (fun k => if (j : Int) < (y.length : Int) then speedy_Greedy.j2 k y far keep (n : Int) (i : Int) c (j : Int) x L (i : Int) (decide (wrap64 ((j : Int) - (n : Int)) < far)) else speedy_Greedy.j2 k y far keep (n : Int) (i : Int) c (j : Int) x L (i : Int) false) = fun k => speedy_Greedy.j2 k y far keep (n : Int) (i : Int) c (j : Int) x L (i : Int) false from by funext k; rw [if_neg (by omega)]]
    apply Ev_unfold
    have h1 : (0 : Int) ≤ (i : Int) := by omega
    have h2 : (i : Int) < (keep.length : Int) := by omega
    simp only [speedy_Greedy.j2, Bool.false_eq_true, if_false, if_pos h1, if_pos h2, Int.toNat_natCast]
    exact H
  | succ d ih =>
    intro j hd hj hle H
    have h1 : (0 : Int) ≤ (i : Int) := by omega
    have h2 : (i : Int) < (keep.length : Int) := by omega
    have h3 : (j : Int) < (y.length : Int) := by omega
    have h4 : (0 : Int) ≤ (j : Int) := by omega
    have hw : wrap64 ((j : Int) - (n : Int)) = (j : Int) - n := by unfold wrap64; omega
    have hw1 : wrap64 ((j : Int) + 1) = ((j + 1 : Nat) : Int) := by unfold wrap64; omega
    apply Ev_unfold
    simp only [speedy_Greedy.l1, if_pos h3]
    apply Ev_unfold
    by_cases hf : wrap64 ((j : Int) - (n : Int)) < far
    · simp only [speedy_Greedy.j2, decide_eq_true hf, if_true, if_pos h3, if_pos h4, if_pos h1, if_pos h2, Int.toNat_natCast, rd_nat]
      rw [hw] at hf
      by_cases hc : y.getD j 0 = c
      · have e : keep1 y far c n j = ((j : Int), j + 1) := by unfold keep1; rw [seek, dif_pos (by unfold lim; omega), if_pos hc]
        rw [e] at H
        simp only [if_pos hc, hw1]
        exact H
      · have e : keep1 y far c n j = keep1 y far c n (j + 1) := by unfold keep1; rw [seek, dif_pos (by unfold lim; omega), if_neg hc]
        rw [e] at H
        simp only [if_neg hc, hw1]
        exact ih (j + 1) (by omega) (by omega) (by omega) H
    · simp only [speedy_Greedy.j2, decide_eq_false hf, Bool.false_eq_true, if_false, if_pos h1, if_pos h2, Int.toNat_natCast]
      rw [hw] at hf
      have e : keep1 y far c n j = (-1, n) := by unfold keep1; rw [seek, dif_neg (by unfold lim; omega)]
      rw [e] at H
      exact H
theorem keep1_le (y : List Int) (far : Int) (c : Int) (n : Nat) (hn : n ≤ y.length) : (keep1 y far c n n).2 ≤ y.length := by
  unfold keep1
  cases h : seek y c n (lim y far n) with
  | none => exact hn
  | some p => have := seek_bd y c _ _ n rfl p h; unfold lim at this; show p + 1 ≤ y.length; omega
theorem set_append_cons (a : List Int) (b : Int) (l : List Int) (v : Int) : (a ++ b :: l).set a.length v = a ++ v :: l := by
  rw [List.set_append_right _ _ (Nat.le_refl _)]; simp
theorem prog_outer (y x : List Int) (far : Int) (hy : y.length ≤ 4096) (hx : x.length ≤ 4096) : ∀ (rest : List Int) (i n : Nat) (done : List Int), i + rest.length = x.length → x.drop i = rest → done.length = i → n ≤ y.length →
    Ev (fun k => speedy_Greedy.l0 k y far (done ++ List.replicate rest.length 0) (n : Int) x (x.length : Int) (i : Int)) (done ++ gr y far rest n) := by
  intro rest
  induction rest with
  | nil =>
    intro i n done hl hd hdn hn
    apply Ev_unfold
    have h : ¬ (i : Int) < (x.length : Int) := by simp at hl; omega
    simp only [speedy_Greedy.l0, if_neg h]
    exact Ev.now _
  | cons c rest ih =>
    intro i n done hl hd hdn hn
    simp only [List.length_cons] at hl
    have h3 : (i : Int) < (x.length : Int) := by omega
    have h4 : (0 : Int) ≤ (i : Int) := by omega
    have hc : rd x (i : Int) = c := by
      rw [rd_nat]
      have := congrArg (fun l => l.getD 0 0) hd
      simpa [List.getD_eq_getElem?_getD] using this
    apply Ev_unfold
    simp only [speedy_Greedy.l0, if_pos h3, if_pos h4, hc]
    refine prog_inner y x far hy _ i n hn _ _ (by simp; omega) c _ n rfl (Nat.le_refl _) hn ?_
    have hw1 : wrap64 ((i : Int) + 1) = ((i + 1 : Nat) : Int) := by unfold wrap64; omega
    rw [hw1]
    have e : (done ++ List.replicate (c :: rest).length 0).set i (keep1 y far c n n).1 = (done ++ [(keep1 y far c n n).1]) ++ List.replicate rest.length 0 := by
      rw [← hdn, List.length_cons, List.replicate_succ, set_append_cons]; simp
    rw [e]
    have := ih (i + 1) (keep1 y far c n n).2 (done ++ [(keep1 y far c n n).1]) (by omega) (by rw [← List.drop_drop, hd]; rfl) (by simp [hdn]) (keep1_le y far c n hn)
    simpa [gr] using this
theorem greedy_prog (x y : List Int) (far : Int) (hx : x.length ≤ 4096) (hy : y.length ≤ 4096) : Ev (fun k => speedy_Greedy.f k x y far) (gr y far x 0) := by
  have h1 : (0 : Int) ≤ (x.length : Int) := by omega
  have h2 : x.length ≤ 35184372088832 := by omega
  unfold speedy_Greedy.f
  simp only [if_pos h1, Int.toNat_natCast, if_pos h2]
  have := prog_outer y x far hy hx x 0 0 [] (by omega) rfl rfl (by omega)
  simpa using this
/-- the reference: from the end on -/
theorem gr_length (y : List Int) (far : Int) : ∀ (x : List Int) (n : Nat), (gr y far x n).length = x.length
  | [], _ => rfl
  | c :: xs, n => by simp [gr, gr_length y far xs]
end Go.Proofs.Ytdcldoembdifpaa.QG
