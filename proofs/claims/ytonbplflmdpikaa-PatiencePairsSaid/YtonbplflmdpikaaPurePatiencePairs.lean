/- PatiencePairs: of any two texts and any pairs the lines that are there once in each text, and the longest rising row, are what the reference tells; the pairs stay as they are, and what is told shares nothing with them. No condition beyond the statement's own. -/
import Derived.Test.YtonbplflmdpikaaRc
import Derived.Test.YtonbplflmdpikaaXx11
namespace Go.Proofs.Ytonbplflmdpikaa.Pure
set_option linter.unusedVariables false
set_option linter.unusedSimpArgs false
open Go.RowKit Go.Proofs.Ytonbplflmdpikaa.X Go.Proofs.Ytonbplflmdpikaa.Q Go.Proofs.Ytonbplflmdpikaa.Q.P7 Go.Proofs.YtonbplflmdpikaaW.PrintWords Go.Proofs.YtonbplflmdpikaaW.PrintLast Go.Proofs.YtonbplflmdpikaaW.PrintMore
def toP (r : S26) : S27 := ⟨r.f0, r.f1⟩
theorem toR_toP (l : List S26) : (l.map toP).map toR = l := by
  rw [List.map_map]
  conv => rhs; rw [← List.map_id l]
  rfl
/-- what is told is spoilt: the pairs stay -/
theorem spoil (l : List S27) (hl : l.length ≤ 1000) : ∀ (d i : Nat) (x9 : List S27), i + d = x9.length → x9.length ≤ 1000 → Ev (fun k => redlinelaw07_PatiencePairs.l1 k (l.map toR) l x9 (i : Int)) true := by
  intro d
  induction d with
  | zero =>
    intro i x9 hi h9
    apply Ev_unfold
    simp only [redlinelaw07_PatiencePairs.l1, if_neg (show ¬ (i : Int) < (x9.length : Int) by omega)]
    refine Ev.bind (same_map l (by omega)) ?_
    exact Ev.now _
  | succ d ih =>
    intro i x9 hi h9
    apply Ev_unfold
    have oi : i < 4611686018427387904 := by omega
    simp only [redlinelaw07_PatiencePairs.l1, if_pos (show (i : Int) < (x9.length : Int) by omega), if_pos (show (0 : Int) ≤ (i : Int) by omega), wadd i oi]
    exact ih (i + 1) _ (by rw [List.length_set]; omega) (by rw [List.length_set]; omega)
theorem patiencePairs_at (x y : List Int) (l : List S27) (hx : x.length ≤ 200) (hy : y.length ≤ 200) (hl : l.length ≤ 200) (wx : ∀ v ∈ x, (Lit.int .i64 v).wf = true) (wy : ∀ v ∈ y, (Lit.int .i64 v).wf = true) :
    ∀ d i, i + d = l.length → Ev (fun k => redlinelaw07_PatiencePairs.l0 k x y (l.map toR) (l.take i) (i : Int)) true := by
  intro d
  induction d with
  | zero =>
    intro i hi
    obtain rfl : i = l.length := by omega
    apply Ev_unfold
    have g1 : 0 + x.length < 17592186044416 := by omega
    have g2 : 0 + y.length < 17592186044416 := by omega
    have hu := rows_len x y x.length 0
    have hr := lrow_len l
    simp only [redlinelaw07_PatiencePairs.l0, List.length_map, if_neg (show ¬ (l.length : Int) < (l.length : Int) by omega), List.take_length]
    refine Ev.bind (prog_long l (by omega)) ?_
    simp only [bsome, List.length_nil, List.nil_append, if_pos g1, if_pos g2, uniq_prog x y (show x.length ≤ 1000000 by omega) (show y.length ≤ 1000000 by omega) wx wy]
    refine Ev.bind (uniq_ref x y (by omega) (by omega)) ?_
    rw [← rows_eq x y x.length 0]
    refine Ev.bind (same_map (pu_rows x y x.length 0) (by omega)) ?_
    simp only [if_true]
    refine Ev.bind (ref_long l (by omega)) ?_
    refine Ev.bind (same_map (lrow l) (by omega)) ?_
    simp only [if_true]
    refine Ev.bind (same_map l (by omega)) ?_
    apply Ev_unfold
    simp only [redlinelaw07_PatiencePairs.j2, Bool.not_true, Bool.false_eq_true, if_false]
    exact spoil l (by omega) (lrow l).length 0 (lrow l) (by omega) (by omega)
  | succ d ih =>
    intro i hi
    apply Ev_unfold
    have oi : i < 4611686018427387904 := by omega
    have ol : (l.take i).length < 8796093022208 := by rw [List.length_take]; omega
    simp only [redlinelaw07_PatiencePairs.l0, List.length_map, if_pos (show (i : Int) < (l.length : Int) by omega), if_pos (show (0 : Int) ≤ (i : Int) by omega), if_pos ol, rdR_map, wadd i oi, toR]
    have e : l.take i ++ [(⟨(l.getD i z27).f0, (l.getD i z27).f1⟩ : S27)] = l.take (i + 1) := by
      rw [List.take_add_one, List.getD_eq_getElem?_getD, List.getElem?_eq_getElem (show i < l.length by omega)]
      rfl
    rw [e]
    exact ih (i + 1) (by omega)
theorem PatiencePairs (x y : List Int) (l2 : List S26) (wx : ∀ v ∈ x, (Lit.int .i64 v).wf = true) (wy : ∀ v ∈ y, (Lit.int .i64 v).wf = true) : ∃ k, redlinelaw07_PatiencePairs.f k x y l2 = some true := by
  suffices H : Ev (fun k => redlinelaw07_PatiencePairs.f k x y l2) true from H.rounds
  have hj : ∀ b : Bool, (b = false → x.length ≤ 200 ∧ y.length ≤ 200 ∧ l2.length ≤ 200) → Ev (fun k => redlinelaw07_PatiencePairs.j0 k x y l2 b) true := by
    intro b hb
    apply Ev_unfold
    cases b with
    | true => simp only [redlinelaw07_PatiencePairs.j0, if_true]; exact Ev.now _
    | false =>
      obtain ⟨h1, h2, h3⟩ := hb rfl
      simp only [redlinelaw07_PatiencePairs.j0, Bool.false_eq_true, if_false]
      have := patiencePairs_at x y (l2.map toP) h1 h2 (by rw [List.length_map]; exact h3) wx wy (l2.map toP).length 0 (by omega)
      rw [toR_toP, List.take_zero] at this
      exact this
  unfold redlinelaw07_PatiencePairs.f
  by_cases h1 : (x.length : Int) > 200
  · simp only [if_pos h1]; exact hj true (fun h => by cases h)
  simp only [if_neg h1]
  by_cases h2 : (y.length : Int) > 200
  · simp only [if_pos h2]; exact hj true (fun h => by cases h)
  simp only [if_neg h2]
  exact hj _ (fun h => by have := of_decide_eq_false h; omega)
end Go.Proofs.Ytonbplflmdpikaa.Pure
