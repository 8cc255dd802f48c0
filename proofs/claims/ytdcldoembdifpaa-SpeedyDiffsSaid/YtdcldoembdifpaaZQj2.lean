/- Going through two texts once: the reference. -/
import Derived.Test.YtdcldoembdifpaaZQj
import Derived.Test.YtdcldoembdifpaaZXx4
namespace Go.Proofs.Ytdcldoembdifpaa.QG
set_option linter.unusedVariables false
set_option linter.unusedSimpArgs false
open Go.RowKit Go.Proofs.Ytdcldoembdifpaa.X Go.Proofs.YtdcldoembdifpaaW.PrintWords Go.Proofs.YtdcldoembdifpaaW.PrintLast Go.Proofs.YtdcldoembdifpaaW.PrintMore
theorem ref_inner (y x : List Int) (far : Int) (hy : y.length ≤ 4096) (i : Nat) (hi : i < x.length) (n : Nat) (R : List Int) (keep : List Int) (hk : keep.length ≤ 4096) : ∀ (d : Nat) (m : Nat) (a : Int), m - n = d → n ≤ m → m ≤ y.length →
    (a = match seek y (x.getD i 0) m (lim y far n) with | some p => (p : Int) | none => -1) →
    Ev (fun k => redlineref09_Greedy.l0 k x y far (keep ++ [(keep1 y far (x.getD i 0) n n).1]) ((keep1 y far (x.getD i 0) n n).2 : Int) (wrap64 ((i : Int) + 1))) R →
    Ev (fun k => redlineref09_Greedy.l1 k x y far keep (n : Int) (i : Int) a ((m : Int) - 1)) R := by
  intro d
  induction d with
  | zero =>
    intro m a hd hnm hm ha H
    obtain rfl : m = n := by omega
    have h1 : ¬ (m : Int) - 1 ≥ (m : Int) := by omega
    have h2 : keep.length < 17592186044416 := by omega
    apply Ev_unfold
    simp only [redlineref09_Greedy.l1, if_neg h1, if_pos h2, Option.bind_some]
    unfold keep1 at H
    cases hs : seek y (x.getD i 0) m (lim y far m) with
    | none =>
      rw [hs] at ha H
      subst ha
      simp only [if_neg (show ¬ (-1 : Int) ≥ 0 by omega)]
      exact H
    | some p =>
      rw [hs] at ha H
      subst ha
      have hp := seek_bd y _ _ _ m rfl p hs
      unfold lim at hp
      have hw : wrap64 ((p : Int) + 1) = ((p + 1 : Nat) : Int) := by unfold wrap64; omega
      simp only [if_pos (show (p : Int) ≥ 0 by omega), hw]
      exact H
  | succ d ih =>
    intro m a hd hnm hm ha H
    obtain ⟨j, rfl⟩ : ∃ j, m = j + 1 := ⟨m - 1, by omega⟩
    have e0 : ((j + 1 : Nat) : Int) - 1 = (j : Int) := by omega
    have h1 : (j : Int) ≥ (n : Int) := by omega
    have h2 : (0 : Int) ≤ (j : Int) := by omega
    have h3 : (j : Int) < (y.length : Int) := by omega
    have h4 : (0 : Int) ≤ (i : Int) := by omega
    have h5 : (i : Int) < (x.length : Int) := by omega
    have hw : wrap64 ((j : Int) - (n : Int)) = (j : Int) - n := by unfold wrap64; omega
    have hw1 : wrap64 ((j : Int) - 1) = (j : Int) - 1 := by unfold wrap64; omega
    rw [e0]
    apply Ev_unfold
    simp only [redlineref09_Greedy.l1, if_pos h1, if_pos h2, if_pos h3, if_pos h4, if_pos h5, rd_nat, hw, hw1]
    by_cases hc : y.getD j 0 = x.getD i 0
    · by_cases hf : (j : Int) - n < far
      · simp only [if_pos hc, if_pos hf]
        refine ih j _ (by omega) (by omega) (by omega) ?_ H
        rw [seek, dif_pos (by unfold lim; omega), if_pos hc]
      · simp only [if_pos hc, if_neg hf]
        refine ih j _ (by omega) (by omega) (by omega) ?_ H
        rw [ha, seek, dif_neg (by unfold lim; omega), seek, dif_neg (by unfold lim; omega)]
    · simp only [if_neg hc]
      refine ih j _ (by omega) (by omega) (by omega) ?_ H
      rw [ha]
      by_cases hl : j < lim y far n
      · conv => rhs; rw [seek, dif_pos hl, if_neg hc]
      · rw [seek, dif_neg (by omega), seek, dif_neg (by omega)]
theorem ref_outer (y x : List Int) (far : Int) (hy : y.length ≤ 4096) (hx : x.length ≤ 4096) : ∀ (rest : List Int) (i n : Nat) (done : List Int), i + rest.length = x.length → x.drop i = rest → done.length = i → n ≤ y.length →
    Ev (fun k => redlineref09_Greedy.l0 k x y far done (n : Int) (i : Int)) (done ++ gr y far rest n) := by
  intro rest
  induction rest with
  | nil =>
    intro i n done hl hd hdn hn
    apply Ev_unfold
    have h : ¬ (i : Int) < (x.length : Int) := by simp at hl; omega
    simp only [redlineref09_Greedy.l0, if_neg h]
    simpa [gr] using Ev.now done
  | cons c rest ih =>
    intro i n done hl hd hdn hn
    simp only [List.length_cons] at hl
    have h3 : (i : Int) < (x.length : Int) := by omega
    have hc : x.getD i 0 = c := by
      have := congrArg (fun l => l.getD 0 0) hd
      simpa [List.getD_eq_getElem?_getD] using this
    apply Ev_unfold
    simp only [redlineref09_Greedy.l0, if_pos h3]
    have hw : wrap64 ((y.length : Int) - 1) = (y.length : Int) - 1 := by unfold wrap64; omega
    rw [hw]
    have hw1 : wrap64 ((i : Int) + 1) = ((i + 1 : Nat) : Int) := by unfold wrap64; omega
    refine ref_inner y x far hy i (by omega) n _ done (by omega) _ y.length (-1) rfl hn (Nat.le_refl _) ?_ ?_
    · rw [seek, dif_neg (by unfold lim; omega)]
    · rw [hc, hw1]
      have := ih (i + 1) (keep1 y far c n n).2 (done ++ [(keep1 y far c n n).1]) (by omega) (by rw [← List.drop_drop, hd]; rfl) (by simp [hdn]) (keep1_le y far c n hn)
      simpa [gr] using this
theorem greedy_ref (x y : List Int) (far : Int) (hx : x.length ≤ 4096) (hy : y.length ≤ 4096) : Ev (fun k => redlineref09_Greedy.f k x y far) (gr y far x 0) := by
  unfold redlineref09_Greedy.f
  have := ref_outer y x far hy hx x 0 0 [] (by omega) rfl rfl (by omega)
  simpa using this
end Go.Proofs.Ytdcldoembdifpaa.QG
