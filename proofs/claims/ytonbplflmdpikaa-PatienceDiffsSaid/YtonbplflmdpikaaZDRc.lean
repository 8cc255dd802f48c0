/- plain: the longest rising row: the reference's is the program's -/
import Derived.Test.YtonbplflmdpikaaZDRb
namespace Go.Proofs.Ytonbplflmdpikaa.Q
set_option linter.unusedVariables false
set_option linter.unusedSimpArgs false
open Go.RowKit Go.Proofs.Ytonbplflmdpikaa.X Go.Proofs.YtonbplflmdpikaaW.PrintWords Go.Proofs.YtonbplflmdpikaaW.PrintLast Go.Proofs.YtonbplflmdpikaaW.PrintMore
namespace P7
theorem rises_r (a b : S27) : redlineref07_rises.f (toR a).f0 (toR a).f1 (toR b).f0 (toR b).f1 = some (decide (rises a b)) := by
  unfold redlineref07_rises.f toR
  dsimp only
  by_cases c : b.f0 > a.f0
  · rw [if_pos c]
    by_cases d : b.f1 > a.f1
    · rw [decide_eq_true d, decide_eq_true (show rises a b from ⟨c, d⟩)]
    · rw [decide_eq_false d, decide_eq_false (show ¬ rises a b from fun h => d h.2)]
  · rw [if_neg c, decide_eq_false (show ¬ rises a b from fun h => c h.1)]
section
variable (l : List S27) (hl : l.length ≤ 300)
include hl
theorem ref_in (i : Nat) (hi : i < l.length) (N : List Int) (hN : N.length = (l.drop (i + 1)).length) (hB : ∀ n ∈ N, n ≤ 300) (h1N : ∀ n ∈ N, 1 ≤ n) (x4 : Int) (R : List S26) :
    ∀ q j m, j + q = (l.drop (i + 1)).length →
      Ev (fun k => redlineref07_Longest.l0 k (l.map toR) (List.replicate i 0 ++ rl_best (l.getD i z27) ((l.drop (i + 1)).drop j) (N.drop j) m :: N) (mx x4 (rl_best (l.getD i z27) ((l.drop (i + 1)).drop j) (N.drop j) m)) ((i : Int) - 1)) R →
      Ev (fun k => redlineref07_Longest.l1 k (l.map toR) (List.replicate i 0 ++ m :: N) x4 (i : Int) ((i + 1 + j : Nat) : Int)) R := by
  have hd : (l.drop (i + 1)).length = l.length - (i + 1) := List.length_drop ..
  have hx : ∀ m : Int, (List.replicate i 0 ++ m :: N).length = l.length := by intro m; rw [List.length_append, List.length_replicate, List.length_cons]; omega
  intro q
  induction q with
  | zero =>
    intro j m hj H
    apply Ev_unfold
    rw [List.drop_eq_nil_of_le (by omega), List.drop_eq_nil_of_le (by omega)] at H
    simp only [rl_best] at H
    have o3 : -9223372036854775808 ≤ (i : Int) - 1 ∧ (i : Int) - 1 ≤ 9223372036854775807 := by omega
    simp only [redlineref07_Longest.l1, List.length_map, if_neg (show ¬ ((i + 1 + j : Nat) : Int) < (l.length : Int) by omega), if_pos (show (0 : Int) ≤ (i : Int) by omega), hx, if_pos (show (i : Int) < (l.length : Int) by omega), rd_nat, getD_here (List.replicate i 0) m N i (by simp), w64 _ o3]
    exact H
  | succ q ih =>
    intro j m hj H
    apply Ev_unfold
    have oj : i + 1 + j < 4611686018427387904 := by omega
    have e : (l.drop (i + 1)).drop j = (l.drop (i + 1)).getD j z27 :: (l.drop (i + 1)).drop (j + 1) := dropP _ j (by omega)
    have e2 : N.drop j = N.getD j 0 :: N.drop (j + 1) := dropN N j (by omega)
    rw [e, e2, rl_best] at H
    have hmem : N.getD j 0 ∈ N := by
      rw [List.getD_eq_getElem?_getD, List.getElem?_eq_getElem (show j < N.length by omega)]
      exact List.getElem_mem (show j < N.length by omega)
    have hn := hB _ hmem
    have hn1 := h1N _ hmem
    have o2 : -9223372036854775808 ≤ N.getD j 0 + 1 ∧ N.getD j 0 + 1 ≤ 9223372036854775807 := by omega
    have eg : l.getD (i + 1 + j) z27 = (l.drop (i + 1)).getD j z27 := by
      simp only [List.getD_eq_getElem?_getD, List.getElem?_drop]
    simp only [redlineref07_Longest.l1, List.length_map, if_pos (show ((i + 1 + j : Nat) : Int) < (l.length : Int) by omega), if_pos (show (0 : Int) ≤ ((i + 1 + j : Nat) : Int) by omega), if_pos (show (0 : Int) ≤ (i : Int) by omega), if_pos (show (i : Int) < (l.length : Int) by omega), rdR_map, rises_r, bsome, hx, rd_nat, Int.toNat_natCast,
      getD_here (List.replicate i 0) m N i (by simp), getD_there (List.replicate i 0) m N i j (by simp), set_here (List.replicate i 0) m _ N i (by simp), wadd (i + 1 + j) oj, w64 _ o2, eg]
    by_cases c : rises (l.getD i z27) ((l.drop (i + 1)).getD j z27)
    · rw [if_pos c] at H
      simp only [decide_eq_true c, if_true]
      exact ih (j + 1) _ (by omega) H
    · rw [if_neg c] at H
      simp only [decide_eq_false c, Bool.false_eq_true, if_false]
      exact ih (j + 1) m (by omega) H
theorem ref_out (R : List S26) (H : Ev (fun k => redlineref07_Longest.l0 k (l.map toR) (pl_long l) (rl_most (pl_long l)) (-1)) R) : ∀ i, i ≤ l.length → Ev (fun k => redlineref07_Longest.l0 k (l.map toR) (List.replicate i 0 ++ pl_long (l.drop i)) (rl_most (pl_long (l.drop i))) ((i : Int) - 1)) R := by
  intro i
  induction i with
  | zero =>
    intro hi
    simp only [List.replicate_zero, List.nil_append, List.drop_zero]
    exact H
  | succ i ih =>
    intro hi
    have h1 := ih (by omega)
    rw [dropP l i (by omega), pl_long, rl_most] at h1
    apply Ev_unfold
    have oi : i < 4611686018427387904 := by omega
    have hle := long_le (l.drop (i + 1))
    have hpos := long_pos (l.drop (i + 1))
    have hd : (l.drop (i + 1)).length = l.length - (i + 1) := List.length_drop ..
    have hlen := long_len (l.drop (i + 1))
    have hx : (List.replicate i 0 ++ (0 : Int) :: pl_long (l.drop (i + 1))).length = l.length := by rw [List.length_append, List.length_replicate, List.length_cons, hlen]; omega
    rw [show ((i + 1 : Nat) : Int) - 1 = (i : Int) from by omega, List.replicate_succ', List.append_assoc, List.singleton_append]
    simp only [redlineref07_Longest.l0, if_pos (show (i : Int) ≥ 0 by omega), if_pos (show (0 : Int) ≤ (i : Int) by omega), hx, if_pos (show (i : Int) < (l.length : Int) by omega), Int.toNat_natCast, set_here (List.replicate i 0) 0 1 _ i (by simp), wadd i oi]
    refine ref_in l hl i (by omega) (pl_long (l.drop (i + 1))) hlen (fun n hn => by have := hle n hn; omega) hpos _ R (l.drop (i + 1)).length 0 1 (by omega) ?_
    rw [List.drop_zero, List.drop_zero, show (1 : Int) = 0 + 1 from rfl, best_eq]
    exact h1
theorem ref_sel (N : List Int) (hN : N.length = l.length) (hp : ∀ n ∈ N, 1 ≤ n) : ∀ q z want out, z + q = l.length → out.length ≤ z → want ≤ 1000 →
    Ev (fun k => redlineref07_Longest.l2 k (l.map toR) N want (out.map toR) (z : Int)) ((pl_sel (l.drop z) (N.drop z) want out).map toR) := by
  intro q
  induction q with
  | zero =>
    intro z want out hz ho h1
    apply Ev_unfold
    rw [List.drop_eq_nil_of_le (by omega)]
    simp only [redlineref07_Longest.l2, List.length_map, if_neg (show ¬ (z : Int) < (l.length : Int) by omega), pl_sel]
    apply Ev_unfold
    simp only [redlineref07_Longest.j3, Bool.false_eq_true, if_false]
    exact Ev.now _
  | succ q ih =>
    intro z want out hz ho h1
    apply Ev_unfold
    have oz : z < 4611686018427387904 := by omega
    have o1 : out.length < 8796093022208 := by omega
    simp only [redlineref07_Longest.l2, List.length_map, if_pos (show (z : Int) < (l.length : Int) by omega)]
    by_cases hw : want > 0
    · have o2 : -9223372036854775808 ≤ want - 1 ∧ want - 1 ≤ 9223372036854775807 := by omega
      rw [dropP l z (by omega), dropN N z (by omega), pl_sel]
      apply Ev_unfold
      simp only [redlineref07_Longest.j3, decide_eq_true hw, if_true, List.length_map, if_pos (show (0 : Int) ≤ (z : Int) by omega), hN, if_pos (show (z : Int) < (l.length : Int) by omega), rd_nat, rdR_map, wadd z oz, if_pos o1, w64 _ o2]
      have htake := ih (z + 1) (want - 1) (out ++ [l.getD z z27]) (by omega) (by rw [List.length_append, List.length_singleton]; omega) (by omega)
      have hskip := ih (z + 1) want out (by omega) (by omega) h1
      rw [List.map_append] at htake
      by_cases c1 : N.getD z 0 = want
      · simp only [if_pos c1]
        by_cases c2 : out = []
        · subst c2
          rw [if_pos ⟨c1, .inl rfl⟩]
          simp only [List.length_nil, Int.natCast_zero, if_true]
          exact htake
        · have hpos : 1 ≤ out.length := by
            cases out with
            | nil => exact absurd rfl c2
            | cons a b => simp
          have hlt : out.length < 1000000 := by omega
          simp only [if_neg (show ¬ (out.length : Int) = 0 by omega), one_less out.length hpos hlt, if_pos (show (0 : Int) ≤ ((out.length - 1 : Nat) : Int) by omega), if_pos (show ((out.length - 1 : Nat) : Int) < (out.length : Int) by omega), rdR_map, last_get out c2, rises_r, bsome]
          by_cases c3 : rises (out.getLastD z27) (l.getD z z27)
          · rw [if_pos ⟨c1, .inr c3⟩]
            simp only [decide_eq_true c3, if_true]
            exact htake
          · rw [if_neg (by rintro ⟨_, e | e⟩; exact c2 e; exact c3 e)]
            simp only [decide_eq_false c3, Bool.false_eq_true, if_false]
            exact hskip
      · simp only [if_neg c1]
        rw [if_neg (fun e => c1 e.1)]
        exact hskip
    · rw [sel_stop _ _ _ _ (by omega) (fun n hn => hp n (List.mem_of_mem_drop hn))]
      apply Ev_unfold
      simp only [redlineref07_Longest.j3, decide_eq_false hw, Bool.false_eq_true, if_false]
      exact Ev.now _
theorem ref_long : Ev (fun k => redlineref07_Longest.f k (l.map toR)) ((lrow l).map toR) := by
  unfold redlineref07_Longest.f
  have o1 : l.length ≤ 35184372088832 := by omega
  have o2 : -9223372036854775808 ≤ (l.length : Int) - 1 ∧ (l.length : Int) - 1 ≤ 9223372036854775807 := by omega
  simp only [List.length_map, if_pos (show (0 : Int) ≤ (l.length : Int) by omega), w64 _ o2, Int.toNat_natCast, if_pos o1]
  have := ref_out l hl ((lrow l).map toR) ?_ l.length (Nat.le_refl _)
  · rw [List.drop_length] at this
    simp only [pl_long, List.append_nil, rl_most] at this
    exact this
  · apply Ev_unfold
    simp only [redlineref07_Longest.l0, if_neg (show ¬ (-1 : Int) ≥ 0 by omega)]
    rw [← max_most (pl_long l) (long_pos l)]
    have hb : pl_max (pl_long l) ≤ 1000 := by
      have h1 := long_le l
      have h3 : ∀ (ns : List Int) (n : Int), n ≤ (300 : Int) → (∀ k ∈ ns, k ≤ (300 : Int)) → ns.foldl mx n ≤ 300 := by
        intro ns
        induction ns with
        | nil => intro n b _; exact b
        | cons k ks ih =>
          intro n b hk
          have := hk k (.head _)
          exact ih (mx n k) (by unfold mx; split <;> omega) (fun j hj => hk j (.tail _ hj))
      cases hp : pl_long l with
      | nil => simp [pl_max]
      | cons n ns =>
        rw [hp] at h1
        have h4 := h1 n (.head _)
        have := h3 ns n (by omega) (fun k hk => by have := h1 k (.tail _ hk); omega)
        simp only [pl_max]
        omega
    have := ref_sel l hl (pl_long l) (long_len l) (long_pos l) l.length 0 (pl_max (pl_long l)) [] (by omega) (by simp) hb
    rw [List.drop_zero, List.drop_zero] at this
    exact this
end
theorem sel_len : ∀ ps ns want out, (pl_sel ps ns want out).length ≤ out.length + ps.length := by
  intro ps
  induction ps with
  | nil => intro ns want out; simp [pl_sel]
  | cons p ps ih =>
    intro ns want out
    cases ns with
    | nil => simp [pl_sel]
    | cons n ns =>
      rw [pl_sel, List.length_cons]
      split
      · have := ih ns (want - 1) (out ++ [p]); rw [List.length_append, List.length_singleton] at this; omega
      · have := ih ns want out; omega
theorem lrow_len (l : List S27) : (lrow l).length ≤ l.length := by
  have := sel_len l (pl_long l) (pl_max (pl_long l)) []
  simpa [lrow] using this
theorem rows_len (x y : List Int) : ∀ q i, (pu_rows x y q i).length ≤ q := by
  intro q
  induction q with
  | zero => intro i; simp [pu_rows]
  | succ q ih => intro i; have := ih (i + 1); rw [pu_rows, List.length_append]; split <;> simp <;> omega
end P7
end Go.Proofs.Ytonbplflmdpikaa.Q
