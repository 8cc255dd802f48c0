/- plain: the longest rising row: the program's and the reference's -/
import Derived.Test.YtonbplflmdpikaaZORa
namespace Go.Proofs.Ytonbplflmdpikaa.Q
set_option linter.unusedVariables false
set_option linter.unusedSimpArgs false
open Go.RowKit Go.Proofs.Ytonbplflmdpikaa.X Go.Proofs.YtonbplflmdpikaaW.PrintWords Go.Proofs.YtonbplflmdpikaaW.PrintLast Go.Proofs.YtonbplflmdpikaaW.PrintMore
namespace P7
theorem rises_f (a b : S27) : patience_Longest_1.f a.f0 a.f1 b.f0 b.f1 = some (decide (rises a b)) := by
  unfold patience_Longest_1.f
  by_cases c : a.f0 < b.f0
  · rw [if_pos c]
    by_cases d : a.f1 < b.f1
    · rw [decide_eq_true d, decide_eq_true (show rises a b from ⟨c, d⟩)]
    · rw [decide_eq_false d, decide_eq_false (show ¬ rises a b from fun h => d h.2)]
  · rw [if_neg c, decide_eq_false (show ¬ rises a b from fun h => c h.1)]
/-- the longest rising row -/
def lrow (l : List S27) : List S27 := pl_sel l (pl_long l) (pl_max (pl_long l)) []
section
variable (l : List S27) (hl : l.length ≤ 700)
include hl
/-! the program -/
theorem prog_in (i : Nat) (hi : i < l.length) (N : List Int) (hN : N.length = (l.drop (i + 1)).length) (hB : ∀ n ∈ N, n ≤ 700) (R : List S27) :
    ∀ q j m, j + q = (l.drop (i + 1)).length → 0 ≤ m → m ≤ 700 →
      Ev (fun k => patience_Longest.l0 k l (List.replicate i 0 ++ (pl_best (l.getD i z27) ((l.drop (i + 1)).drop j) (N.drop j) m + 1) :: N) ((i : Int) - 1)) R →
      Ev (fun k => patience_Longest.l1 k l (List.replicate i 0 ++ m :: N) (i : Int) (l.drop (i + 1)) ((l.drop (i + 1)).length : Int) (j : Int)) R := by
  have hd : (l.drop (i + 1)).length = l.length - (i + 1) := List.length_drop ..
  have hx : ∀ m : Int, (List.replicate i 0 ++ m :: N).length = l.length := by intro m; rw [List.length_append, List.length_replicate, List.length_cons]; omega
  intro q
  induction q with
  | zero =>
    intro j m hj h0 h1 H
    apply Ev_unfold
    rw [List.drop_eq_nil_of_le (by omega), List.drop_eq_nil_of_le (by omega)] at H
    simp only [pl_best] at H
    have o2 : -9223372036854775808 ≤ m + 1 ∧ m + 1 ≤ 9223372036854775807 := by omega
    have o3 : -9223372036854775808 ≤ (i : Int) - 1 ∧ (i : Int) - 1 ≤ 9223372036854775807 := by omega
    simp only [patience_Longest.l1, if_neg (show ¬ (j : Int) < ((l.drop (i + 1)).length : Int) by omega), if_pos (show (0 : Int) ≤ (i : Int) by omega), hx, if_pos (show (i : Int) < (l.length : Int) by omega), rd_nat, Int.toNat_natCast, getD_here (List.replicate i 0) m N i (by simp), set_here (List.replicate i 0) m _ N i (by simp), w64 _ o2, w64 _ o3]
    exact H
  | succ q ih =>
    intro j m hj h0 h1 H
    apply Ev_unfold
    have oi : i < 4611686018427387904 := by omega
    have oj : j < 4611686018427387904 := by omega
    have b1 : i + 1 < 1000000 := by omega
    have b2 : j < 1000000 := by omega
    have e : (l.drop (i + 1)).drop j = (l.drop (i + 1)).getD j z27 :: (l.drop (i + 1)).drop (j + 1) := dropP _ j (by omega)
    have e2 : N.drop j = N.getD j 0 :: N.drop (j + 1) := dropN N j (by omega)
    rw [e, e2, pl_best] at H
    have hn : N.getD j 0 ≤ 700 := by
      refine hB _ ?_
      rw [List.getD_eq_getElem?_getD, List.getElem?_eq_getElem (show j < N.length by omega)]
      exact List.getElem_mem (show j < N.length by omega)
    have hw : wrap64 (((i + 1 : Nat) : Int) + (j : Int)) = ((i + 1 + j : Nat) : Int) := by rw [w64 _ (by omega)]; omega
    simp only [patience_Longest.l1, if_pos (show (j : Int) < ((l.drop (i + 1)).length : Int) by omega), if_pos (show (0 : Int) ≤ (j : Int) by omega), if_pos (show (0 : Int) ≤ (i : Int) by omega), if_pos (show (i : Int) < (l.length : Int) by omega), rdP_nat, hx, wadd i oi, hw, if_pos (show (0 : Int) ≤ ((i + 1 + j : Nat) : Int) by omega), if_pos (show ((i + 1 + j : Nat) : Int) < (l.length : Int) by omega), rd_nat, Int.toNat_natCast,
      getD_here (List.replicate i 0) m N i (by simp), getD_there (List.replicate i 0) m N i j (by simp), set_here (List.replicate i 0) m _ N i (by simp), wadd j oj]
    rw [rises_f]
    simp only [bsome]
    by_cases c : rises (l.getD i z27) ((l.drop (i + 1)).getD j z27)
    · rw [if_pos c] at H
      simp only [decide_eq_true c, if_true]
      refine ih (j + 1) _ (by omega) ?_ ?_ H
      · unfold mx; split <;> omega
      · unfold mx; split <;> omega
    · rw [if_neg c] at H
      simp only [decide_eq_false c, Bool.false_eq_true, if_false]
      exact ih (j + 1) m (by omega) h0 h1 H
theorem prog_out (R : List S27) (H : Ev (fun k => patience_Longest.l0 k l (pl_long l) (-1)) R) : ∀ i, i ≤ l.length → Ev (fun k => patience_Longest.l0 k l (List.replicate i 0 ++ pl_long (l.drop i)) ((i : Int) - 1)) R := by
  intro i
  induction i with
  | zero =>
    intro hi
    simp only [List.replicate_zero, List.nil_append, List.drop_zero]
    exact H
  | succ i ih =>
    intro hi
    have h1 := ih (by omega)
    rw [dropP l i (by omega), pl_long] at h1
    apply Ev_unfold
    have oi : i < 4611686018427387904 := by omega
    rw [show ((i + 1 : Nat) : Int) - 1 = (i : Int) from by omega]
    simp only [patience_Longest.l0, if_pos (show (i : Int) ≥ 0 by omega), if_pos (show (0 : Int) ≤ ((i + 1 : Nat) : Int) by omega), wadd i oi, if_pos (show ((i + 1 : Nat) : Int) ≤ (l.length : Int) by omega), bsome, Int.toNat_natCast]
    rw [List.replicate_succ', List.append_assoc, List.singleton_append]
    have hle := long_le (l.drop (i + 1))
    have hd : (l.drop (i + 1)).length = l.length - (i + 1) := List.length_drop ..
    refine prog_in l hl i (by omega) (pl_long (l.drop (i + 1))) (long_len _) (fun n hn => by have := hle n hn; omega) R (l.drop (i + 1)).length 0 0 (by omega) (by omega) (by omega) ?_
    rw [List.drop_zero, List.drop_zero]
    exact h1
theorem prog_sel (N : List Int) (hN : N.length = l.length) : ∀ q z want out, z + q = l.length → out.length ≤ z → -(z : Int) ≤ want → want ≤ 1000 →
    Ev (fun k => patience_Longest.l2 k N out want l (l.length : Int) (z : Int)) (pl_sel (l.drop z) (N.drop z) want out) := by
  intro q
  induction q with
  | zero =>
    intro z want out hz ho h0 h1
    apply Ev_unfold
    rw [List.drop_eq_nil_of_le (by omega)]
    simp only [patience_Longest.l2, if_neg (show ¬ (z : Int) < (l.length : Int) by omega), pl_sel]
    exact Ev.now _
  | succ q ih =>
    intro z want out hz ho h0 h1
    apply Ev_unfold
    have oz : z < 4611686018427387904 := by omega
    have o1 : out.length < 8796093022208 := by omega
    have o2 : -9223372036854775808 ≤ want - 1 ∧ want - 1 ≤ 9223372036854775807 := by omega
    rw [dropP l z (by omega), dropN N z (by omega), pl_sel]
    simp only [patience_Longest.l2, if_pos (show (z : Int) < (l.length : Int) by omega), if_pos (show (0 : Int) ≤ (z : Int) by omega), hN, rd_nat, rdP_nat, wadd z oz, if_pos o1, w64 _ o2]
    have htake := ih (z + 1) (want - 1) (out ++ [l.getD z z27]) (by omega) (by rw [List.length_append, List.length_singleton]; omega) (by omega) (by omega)
    have hskip := ih (z + 1) want out (by omega) (by omega) (by omega) h1
    by_cases c1 : N.getD z 0 = want
    · simp only [if_pos c1]
      by_cases c2 : out = []
      · subst c2
        rw [if_pos ⟨c1, .inl rfl⟩]
        simp only [List.length_nil, Int.natCast_zero, if_true]
        exact htake
      · have hpos : 1 ≤ out.length := by
          cases out with
          | nil => exact absurd rfl c2
          | cons a b => simp
        have hlt : out.length < 1000000 := by omega
        simp only [if_neg (show ¬ (out.length : Int) = 0 by omega), one_less out.length hpos hlt, if_pos (show (0 : Int) ≤ ((out.length - 1 : Nat) : Int) by omega), if_pos (show ((out.length - 1 : Nat) : Int) < (out.length : Int) by omega), rdP_nat, last_get out c2]
        rw [rises_f]
        simp only [bsome]
        by_cases c3 : rises (out.getLastD z27) (l.getD z z27)
        · rw [if_pos ⟨c1, .inr c3⟩]
          simp only [decide_eq_true c3, if_true]
          exact htake
        · rw [if_neg (by rintro ⟨_, e | e⟩; exact c2 e; exact c3 e)]
          simp only [decide_eq_false c3, Bool.false_eq_true, if_false]
          exact hskip
    · simp only [if_neg c1]
      rw [if_neg (fun e => c1 e.1)]
      exact hskip
theorem prog_long : Ev (fun k => patience_Longest.f k l) (lrow l) := by
  unfold patience_Longest.f
  have o1 : l.length ≤ 35184372088832 := by omega
  have o2 : -9223372036854775808 ≤ (l.length : Int) - 1 ∧ (l.length : Int) - 1 ≤ 9223372036854775807 := by omega
  simp only [if_pos (show (0 : Int) ≤ (l.length : Int) by omega), w64 _ o2, Int.toNat_natCast, if_pos o1]
  have := prog_out l hl (lrow l) ?_ l.length (Nat.le_refl _)
  · rw [List.drop_length] at this
    simp only [pl_long, List.append_nil] at this
    exact this
  · apply Ev_unfold
    simp only [patience_Longest.l0, if_neg (show ¬ (-1 : Int) ≥ 0 by omega)]
    by_cases c : (l.length : Int) = 0
    · simp only [if_pos c]
      have : l = [] := List.eq_nil_of_length_eq_zero (by omega)
      subst this
      exact Ev.now _
    · simp only [if_neg c]
      have hm : slices_Max_int_int.f (pl_long l) = some (pl_max (pl_long l)) := by
        have h1 := long_len l
        cases hp : pl_long l with
        | nil => rw [hp] at h1; simp at h1; omega
        | cons n ns =>
          rw [hp, List.length_cons] at h1
          simp only [slices_Max_int_int.f, pl_max]
          rw [if_pos (by omega)]
      rw [hm]
      simp only [bsome]
      have hb : 0 ≤ pl_max (pl_long l) ∧ pl_max (pl_long l) ≤ 1000 := by
        have h1 := long_le l
        have h2 := long_pos l
        have h3 : ∀ (ns : List Int) (n : Int), 1 ≤ n → n ≤ (700 : Int) → (∀ k ∈ ns, 1 ≤ k ∧ k ≤ (700 : Int)) → 1 ≤ ns.foldl mx n ∧ ns.foldl mx n ≤ 700 := by
          intro ns
          induction ns with
          | nil => intro n a b _; exact ⟨a, b⟩
          | cons k ks ih =>
            intro n a b hk
            have := hk k (.head _)
            exact ih (mx n k) (by unfold mx; split <;> omega) (by unfold mx; split <;> omega) (fun j hj => hk j (.tail _ hj))
        cases hp : pl_long l with
        | nil => simp [pl_max]
        | cons n ns =>
          rw [hp] at h1 h2
          have h4 := h1 n (.head _)
          have h5 := h2 n (.head _)
          have := h3 ns n h5 (by omega) (fun k hk => ⟨h2 k (.tail _ hk), by have := h1 k (.tail _ hk); omega⟩)
          simp only [pl_max]
          omega
      have := prog_sel l hl (pl_long l) (long_len l) l.length 0 (pl_max (pl_long l)) [] (by omega) (by simp) (by omega) (by omega)
      rw [List.drop_zero, List.drop_zero] at this
      exact this
end
end P7
end Go.Proofs.Ytonbplflmdpikaa.Q
