/- HistogramBest: of any two texts the run that the program holds on to, and whether there is one, is what the reference tells. No condition beyond the statement's own. -/
import Derived.Test.YtdcldoembdifpaaQa
import Derived.Test.YtdcldoembdifpaaXx10
import Derived.Test.YtdcldoembdifpaaXx11
namespace Go.Proofs.Ytdcldoembdifpaa.Pure
set_option linter.unusedVariables false
set_option linter.unusedSimpArgs false
open Go.RowKit Go.Proofs.Ytdcldoembdifpaa.X Go.Proofs.Ytdcldoembdifpaa.Q Go.Proofs.YtdcldoembdifpaaW.PrintWords Go.Proofs.YtdcldoembdifpaaW.PrintLast Go.Proofs.YtdcldoembdifpaaW.PrintMore
namespace HB
abbrev Rn := S30

theorem times_l (x : List Int) (c : Int) (hx : x.length ≤ 1000000) : ∀ d i m : Nat, i + d = x.length → m ≤ i → Ev (fun k => redlineref08_times.l0 k x c (m : Int) (i : Int)) ((m : Int) + hb_cnt (x.drop i) c) := by
  intro d
  induction d with
  | zero =>
    intro i m hi hm
    apply Ev_unfold
    simp only [redlineref08_times.l0, if_neg (show ¬ (i : Int) < (x.length : Int) by omega)]
    rw [List.drop_eq_nil_of_le (by omega)]
    simp only [hb_cnt, Int.add_zero]
    exact Ev.now _
  | succ d ih =>
    intro i m hi hm
    apply Ev_unfold
    have e2 : wrap64 ((i : Int) + 1) = ((i + 1 : Nat) : Int) := wadd i (by omega)
    have e3 : wrap64 ((m : Int) + 1) = ((m + 1 : Nat) : Int) := wadd m (by omega)
    simp only [redlineref08_times.l0, if_pos (show (i : Int) < (x.length : Int) by omega), if_pos (show (0 : Int) ≤ (i : Int) by omega), e2, e3, rd_nat]
    rw [drop_cons x i (by omega)]
    simp only [hb_cnt]
    by_cases h : x.getD i 0 = c
    · simp only [if_pos h]
      have := ih (i + 1) (m + 1) (by omega) (by omega)
      rw [show ((m : Int) + (1 + hb_cnt (x.drop (i + 1)) c)) = ((m + 1 : Nat) : Int) + hb_cnt (x.drop (i + 1)) c from by omega]
      exact this
    · simp only [if_neg h]
      have := ih (i + 1) m (by omega) (by omega)
      rw [Int.zero_add]
      exact this
theorem times_ev (x : List Int) (c : Int) (hx : x.length ≤ 1000000) : Ev (fun k => redlineref08_times.f k x c) (hb_cnt x c) := by
  have := times_l x c hx x.length 0 0 (by omega) (by omega)
  simp only [List.drop_zero] at this
  unfold redlineref08_times.f
  rw [show ((0 : Nat) : Int) + hb_cnt x c = hb_cnt x c from by omega] at this
  exact this

theorem run_bd (x y : List Int) (i j : Nat) : ∀ q n rare, (hb_run x y i j q n rare).1 ≤ n + q := by
  intro q
  induction q with
  | zero => intro n rare; simp [hb_run]
  | succ q ih =>
    intro n rare
    rw [hb_run]
    split
    · have := ih (n + 1) (mn rare (hb_cnt x (x.getD (i + n) 0))); omega
    · simp only []; omega

/-- the run at i and j, as the reference begins it -/
def rrun (x y : List Int) (i j : Nat) : Rn := let r := hb_run x y i j (x.length - i) 0 (x.length : Int); ⟨(i : Int), (j : Int), (r.1 : Int), r.2⟩
def skip (x y : List Int) (i j : Nat) : Prop := x.getD i 0 ≠ y.getD j 0 ∨ (0 < i ∧ 0 < j ∧ x.getD (i - 1) 0 = y.getD (j - 1) 0)
instance (x y : List Int) (i j : Nat) : Decidable (skip x y i j) := by unfold skip; exact inferInstance
def rj (x y : List Int) (i : Nat) : Nat → Nat → List Rn
  | 0, _ => []
  | q + 1, j => (if skip x y i j then [] else [rrun x y i j]) ++ rj x y i q (j + 1)
def ri (x y : List Int) : Nat → Nat → List Rn
  | 0, _ => []
  | q + 1, i => rj x y i y.length 0 ++ ri x y q (i + 1)
theorem rj_len (x y : List Int) (i : Nat) : ∀ q j, (rj x y i q j).length ≤ q := by
  intro q
  induction q with
  | zero => intro j; simp [rj]
  | succ q ih =>
    intro j
    have := ih (j + 1)
    rw [rj, List.length_append]
    split
    · simp; omega
    · simp; omega

theorem ref_l2 (x y : List Int) (hx : x.length ≤ 1000000) (hy : y.length ≤ 1000000) (T : List Rn) (hT : T.length < 4398046511104) (i j : Nat) (hi : i < x.length) (hj : j < y.length) (R : List Rn) :
    ∀ q n rare, i + n + q = x.length → (Ev (fun k => redlineref08_Runs.l1 k x y (T ++ [(⟨(i : Int), (j : Int), ((hb_run x y i j q n rare).1 : Int), (hb_run x y i j q n rare).2⟩ : Rn)]) (i : Int) (wrap64 ((j : Int) + 1))) R) →
      Ev (fun k => redlineref08_Runs.l2 k x y T (i : Int) (j : Int) (i : Int) (j : Int) (n : Int) rare) R := by
  intro q
  induction q with
  | zero =>
    intro n rare hq H
    apply Ev_unfold
    have e1 : wrap64 ((i : Int) + (n : Int)) = ((i + n : Nat) : Int) := by rw [w64 _ (by omega)]; omega
    simp only [redlineref08_Runs.l2, e1, if_neg (show ¬ ((i + n : Nat) : Int) < (x.length : Int) by omega), if_pos hT]
    simp only [hb_run] at H
    exact H
  | succ q ih =>
    intro n rare hq H
    apply Ev_unfold
    have e1 : wrap64 ((i : Int) + (n : Int)) = ((i + n : Nat) : Int) := by rw [w64 _ (by omega)]; omega
    have e2 : wrap64 ((j : Int) + (n : Int)) = ((j + n : Nat) : Int) := by rw [w64 _ (by omega)]; omega
    have e3 : wrap64 ((n : Int) + 1) = ((n + 1 : Nat) : Int) := wadd n (by omega)
    simp only [redlineref08_Runs.l2, e1, e2, e3, if_pos (show ((i + n : Nat) : Int) < (x.length : Int) by omega), if_pos (show (0 : Int) ≤ ((i + n : Nat) : Int) by omega), if_pos (show (0 : Int) ≤ ((j + n : Nat) : Int) by omega), if_pos hT, rd_nat]
    rw [hb_run] at H
    by_cases h2 : j + n < y.length
    · simp only [if_pos (show ((j + n : Nat) : Int) < (y.length : Int) by omega)]
      by_cases h3 : x.getD (i + n) 0 = y.getD (j + n) 0
      · simp only [if_pos h3]
        rw [if_pos ⟨by omega, h2, h3⟩] at H
        refine Ev.bind (times_ev x _ hx) ?_
        exact ih (n + 1) _ (by omega) H
      · simp only [if_neg h3]
        rw [if_neg (fun h => h3 h.2.2)] at H
        exact H
    · simp only [if_neg (show ¬ ((j + n : Nat) : Int) < (y.length : Int) by omega)]
      rw [if_neg (fun h => h2 h.2.1)] at H
      exact H

theorem ref_l1 (x y : List Int) (hx : x.length ≤ 1000000) (hy : y.length ≤ 1000000) (i : Nat) (hi : i < x.length) (R : List Rn) :
    ∀ q j T, j + q = y.length → T.length + q < 4398046511104 → Ev (fun k => redlineref08_Runs.l0 k x y (T ++ rj x y i q j) (wrap64 ((i : Int) + 1))) R →
      Ev (fun k => redlineref08_Runs.l1 k x y T (i : Int) (j : Int)) R := by
  intro q
  induction q with
  | zero =>
    intro j T hq hT H
    apply Ev_unfold
    simp only [redlineref08_Runs.l1, if_neg (show ¬ (j : Int) < (y.length : Int) by omega)]
    simp only [rj, List.append_nil] at H
    exact H
  | succ q ih =>
    intro j T hq hT H
    apply Ev_unfold
    have e2 : wrap64 ((j : Int) + 1) = ((j + 1 : Nat) : Int) := wadd j (by omega)
    simp only [redlineref08_Runs.l1, if_pos (show (j : Int) < (y.length : Int) by omega), if_pos (show (i : Int) < (x.length : Int) by omega), if_pos (show (0 : Int) ≤ (j : Int) by omega), if_pos (show (0 : Int) ≤ (i : Int) by omega), rd_nat]
    rw [rj] at H
    have hb : ∀ b : Bool, (b = true ↔ skip x y i j) → Ev (fun k => redlineref08_Runs.j2 k x y T (i : Int) (j : Int) b) R := by
      intro b hb
      apply Ev_unfold
      simp only [redlineref08_Runs.j2]
      by_cases h : skip x y i j
      · have hbt := hb.2 h
        subst hbt
        simp only [if_true, e2]
        rw [if_pos h, List.nil_append] at H
        exact ih (j + 1) T (by omega) (by omega) H
      · have hbf : b = false := by cases b with | false => rfl | true => exact absurd (hb.1 rfl) h
        subst hbf
        simp only [Bool.false_eq_true, if_false]
        rw [if_neg h, ← List.append_assoc] at H
        have := ref_l2 x y hx hy T (by omega) i j hi (by omega) R (x.length - i) 0 (x.length : Int) (by omega) (by
          rw [e2]
          exact ih (j + 1) _ (by omega) (by simp; omega) H)
        exact this
    by_cases h1 : x.getD i 0 = y.getD j 0
    · simp only [if_pos h1]
      by_cases h2 : (i : Int) > 0
      · simp only [if_pos h2]
        have e4 : wrap64 ((i : Int) - 1) = ((i - 1 : Nat) : Int) := by rw [w64 _ (by omega)]; omega
        by_cases h3 : (j : Int) > 0
        · have e5 : wrap64 ((j : Int) - 1) = ((j - 1 : Nat) : Int) := by rw [w64 _ (by omega)]; omega
          simp only [if_pos h3, e4, e5, if_pos (show (0 : Int) ≤ ((i - 1 : Nat) : Int) by omega), if_pos (show ((i - 1 : Nat) : Int) < (x.length : Int) by omega), if_pos (show (0 : Int) ≤ ((j - 1 : Nat) : Int) by omega), if_pos (show ((j - 1 : Nat) : Int) < (y.length : Int) by omega), rd_nat]
          refine hb _ ?_
          rw [beq_iff_eq]
          constructor
          · intro h; exact .inr ⟨by omega, by omega, h⟩
          · rintro (h | ⟨_, _, h⟩)
            · exact absurd h1 h
            · exact h
        · simp only [if_neg h3]
          refine hb _ ⟨fun h => Bool.noConfusion h, ?_⟩
          rintro (h | ⟨_, h, _⟩)
          · exact absurd h1 h
          · exfalso; omega
      · simp only [if_neg h2]
        refine hb _ ⟨fun h => Bool.noConfusion h, ?_⟩
        rintro (h | ⟨h, _⟩)
        · exact absurd h1 h
        · exfalso; omega
    · simp only [if_neg h1]
      exact hb _ ⟨fun _ => .inl h1, fun _ => rfl⟩

theorem ref_l0 (x y : List Int) (hx : x.length ≤ 1000000) (hy : y.length ≤ 1000000) :
    ∀ q i T, i + q = x.length → T.length + (q + 1) * y.length < 4398046511104 → Ev (fun k => redlineref08_Runs.l0 k x y T (i : Int)) (T ++ ri x y q i) := by
  intro q
  induction q with
  | zero =>
    intro i T hq hT
    apply Ev_unfold
    simp only [redlineref08_Runs.l0, if_neg (show ¬ (i : Int) < (x.length : Int) by omega), ri, List.append_nil]
    exact Ev.now _
  | succ q ih =>
    intro i T hq hT
    apply Ev_unfold
    have e2 : wrap64 ((i : Int) + 1) = ((i + 1 : Nat) : Int) := wadd i (by omega)
    simp only [redlineref08_Runs.l0, if_pos (show (i : Int) < (x.length : Int) by omega)]
    rw [Nat.add_mul] at hT
    have hl := rj_len x y i y.length 0
    refine ref_l1 x y hx hy i (by omega) _ y.length 0 T (by omega) (by rw [Nat.one_mul] at hT; have := Nat.zero_le ((q + 1) * y.length); omega) ?_
    rw [e2, ri, ← List.append_assoc]
    exact ih (i + 1) _ (by omega) (by rw [List.length_append]; rw [Nat.one_mul] at hT; omega)

def fb (b r : Rn) : Rn := if r.f3 < b.f3 ∨ (r.f3 = b.f3 ∧ r.f2 > b.f2) then r else b
def fin (s : HbSt) (r : Rn) : HbSt := if s.2.2.2.2 = false ∨ (if r.f3 = s.2.2.2.1 then r.f2 > s.2.2.1 else r.f3 < s.2.2.2.1) then (r.f0, r.f1, r.f2, r.f3, true) else s

theorem best_l (T : List Rn) (hT : T.length < 4398046511104) : ∀ d i : Nat, ∀ b : Rn, i + d = T.length →
    Ev (fun k => redlineref08_Best.l0 k T (i : Int) b.f0 b.f1 b.f2 b.f3) (let r := (T.drop i).foldl fb b; (r.f0, r.f1, r.f2, r.f3, true)) := by
  intro d
  induction d with
  | zero =>
    intro i b hd
    apply Ev_unfold
    simp only [redlineref08_Best.l0, if_neg (show ¬ (i : Int) < (T.length : Int) by omega)]
    rw [List.drop_eq_nil_of_le (by omega)]
    exact Ev.now _
  | succ d ih =>
    intro i b hd
    apply Ev_unfold
    have hi : i < T.length := by omega
    have e2 : wrap64 ((i : Int) + 1) = ((i + 1 : Nat) : Int) := wadd i (by omega)
    have er : ∀ j : Int, j = (i : Int) → rd_T30 T j = T[i] := by
      intro j hj
      subst hj
      simp [rd_T30, List.getD_eq_getElem?_getD, hi]
    have er := er _ rfl
    simp only [redlineref08_Best.l0, if_pos (show (i : Int) < (T.length : Int) by omega), if_pos (show (0 : Int) ≤ (i : Int) by omega), e2, er]
    rw [List.drop_eq_getElem_cons hi, List.foldl_cons]
    generalize T[i] = r
    have := ih (i + 1) (fb b r) (by omega)
    by_cases h1 : r.f3 < b.f3
    · simp only [if_pos h1]
      rw [show fb b r = r from by unfold fb; rw [if_pos (.inl h1)]] at this ⊢
      exact this
    · simp only [if_neg h1]
      by_cases h2 : r.f3 = b.f3
      · simp only [if_pos h2]
        by_cases h3 : r.f2 > b.f2
        · simp only [if_pos h3]
          rw [show fb b r = r from by unfold fb; rw [if_pos (.inr ⟨h2, h3⟩)]] at this ⊢
          exact this
        · simp only [if_neg h3]
          rw [show fb b r = b from by unfold fb; rw [if_neg (by rintro (h | h); exact h1 h; exact h3 h.2)]] at this ⊢
          exact this
      · simp only [if_neg h2]
        rw [show fb b r = b from by unfold fb; rw [if_neg (by rintro (h | h); exact h1 h; exact h2 h.1)]] at this ⊢
        exact this

theorem fold_fin : ∀ (T : List Rn) (b : Rn), T.foldl fin (b.f0, b.f1, b.f2, b.f3, true) = (let r := T.foldl fb b; (r.f0, r.f1, r.f2, r.f3, true)) := by
  intro T
  induction T with
  | nil => intro b; rfl
  | cons r T ih =>
    intro b
    rw [List.foldl_cons, List.foldl_cons]
    have e : fin (b.f0, b.f1, b.f2, b.f3, true) r = ((fb b r).f0, (fb b r).f1, (fb b r).f2, (fb b r).f3, true) := by
      unfold fin fb
      dsimp only
      by_cases h : r.f3 = b.f3
      · by_cases h2 : r.f2 > b.f2
        · rw [if_pos (.inr (by rw [if_pos h]; exact h2)), if_pos (.inr ⟨h, h2⟩)]
        · rw [if_neg (by rintro (h3 | h3); cases h3; rw [if_pos h] at h3; exact h2 h3), if_neg (by rintro (h3 | h3); omega; exact h2 h3.2)]
      · by_cases h2 : r.f3 < b.f3
        · rw [if_pos (.inr (by rw [if_neg h]; exact h2)), if_pos (.inl h2)]
        · rw [if_neg (by rintro (h3 | h3); cases h3; rw [if_neg h] at h3; exact h2 h3), if_neg (by rintro (h3 | h3); exact h2 h3; exact h h3.1)]
    rw [e]
    exact ih (fb b r)

theorem ref_best (x y : List Int) (hx : x.length ≤ 300) (hy : y.length ≤ 300) : Ev (fun k => redlineref08_Best.f k x y) ((ri x y x.length 0).foldl fin (0, 0, 0, 0, false)) := by
  unfold redlineref08_Best.f
  have hm : (x.length + 1) * y.length ≤ 301 * 300 := Nat.mul_le_mul (by omega) hy
  refine Ev.bind (f := fun k t => if (t.length : Int) = 0 then some (0, 0, 0, 0, false) else if 0 < (t.length : Int) then redlineref08_Best.l0 k t 1 (rd_T30 t 0).f0 (rd_T30 t 0).f1 (rd_T30 t 0).f2 (rd_T30 t 0).f3 else none) (ref_l0 x y (by omega) (by omega) x.length 0 [] (by omega) (by simp only [List.length_nil]; omega)) ?_
  rw [List.nil_append]
  have hl : ∀ q i, (ri x y q i).length ≤ q * y.length := by
    intro q
    induction q with
    | zero => intro i; simp [ri]
    | succ q ih => intro i; rw [ri, List.length_append, Nat.add_mul]; have := ih (i + 1); have := rj_len x y i y.length 0; omega
  have hl0 := hl x.length 0
  have hm2 : x.length * y.length ≤ 300 * 300 := Nat.mul_le_mul hx hy
  generalize ri x y x.length 0 = T at *
  cases T with
  | nil =>
    simp only [List.length_nil, Int.natCast_zero, if_true, List.foldl_nil]
    exact Ev.now _
  | cons r T =>
    simp only [if_neg (show ¬ (((r :: T).length : Nat) : Int) = 0 by simp only [List.length_cons]; omega), if_pos (show (0 : Int) < (((r :: T).length : Nat) : Int) by simp only [List.length_cons]; omega)]
    rw [List.foldl_cons]
    have e0 : ∀ j : Int, j = 0 → rd_T30 (r :: T) j = r := by intro j hj; subst hj; rfl
    rw [e0 0 rfl]
    have e : fin (0, 0, 0, 0, false) r = (r.f0, r.f1, r.f2, r.f3, true) := by unfold fin; rw [if_pos (.inl rfl)]
    rw [e, fold_fin]
    have := best_l (r :: T) (by omega) T.length 1 r (by simp only [List.length_cons]; omega)
    simp only [List.drop_succ_cons, List.drop_zero] at this
    exact this

theorem run_start (x y : List Int) (i j : Nat) (hi : i < x.length) (hj : j < y.length) (h : x.getD i 0 = y.getD j 0) :
    hb_run x y i j (x.length - i) 0 (hb_cnt x (y.getD j 0)) = hb_run x y i j (x.length - i) 0 (x.length : Int) := by
  obtain ⟨q, hq⟩ : ∃ q, x.length - i = q + 1 := ⟨x.length - i - 1, by omega⟩
  have hc := hb_cnt_bound x (y.getD j 0)
  rw [hq, hb_run, hb_run, if_pos ⟨by omega, by omega, h⟩, if_pos ⟨by omega, by omega, h⟩]
  have e : mn (hb_cnt x (y.getD j 0)) (hb_cnt x (x.getD (i + 0) 0)) = mn (x.length : Int) (hb_cnt x (x.getD (i + 0) 0)) := by
    rw [Nat.add_zero, h]
    unfold mn
    split <;> split <;> omega
  rw [e]

theorem js_eq (x y : List Int) (i : Nat) (hi : i < x.length) : ∀ q j s, j + q = y.length → hb_js x y i q j s = (rj x y i q j).foldl fin s := by
  intro q
  induction q with
  | zero => intro j s _; rfl
  | succ q ih =>
    intro j s hj
    rw [hb_js, rj, List.foldl_append, ih (j + 1) _ (by omega)]
    congr 1
    unfold hb_step
    by_cases h : skip x y i j
    · rw [if_pos h, if_pos (show _ ∨ _ from h)]; rfl
    · have h1 : x.getD i 0 = y.getD j 0 := by
        by_cases e : x.getD i 0 = y.getD j 0
        · exact e
        · exact absurd (Or.inl e) h
      rw [if_neg h, if_neg (show ¬ (_ ∨ _) from h), List.foldl_cons, List.foldl_nil, run_start x y i j hi (by omega) h1]
      rfl
theorem is_eq (x y : List Int) : ∀ q i s, i + q = x.length → hb_is x y q i s = (ri x y q i).foldl fin s := by
  intro q
  induction q with
  | zero => intro i s _; rfl
  | succ q ih =>
    intro i s hi
    rw [hb_is, ri, List.foldl_append, ih (i + 1) _ (by omega), js_eq x y i (by omega) _ _ _ (by omega)]
end HB
open HB
theorem HistogramBest : redlinelaw08_HistogramBest.Pure := by
  intro x y hx hx8 wx hy hy8 wy
  suffices H : Ev (fun k => redlinelaw08_HistogramBest.f k x y) true from H.rounds
  unfold redlinelaw08_HistogramBest.f
  by_cases h1 : (x.length : Int) > 120
  · simp only [if_pos h1]
    apply Ev_unfold
    simp only [redlinelaw08_HistogramBest.j0, if_true]
    exact Ev.now _
  simp only [if_neg h1]
  apply Ev_unfold
  simp only [redlinelaw08_HistogramBest.j0]
  by_cases h2 : (y.length : Int) > 120
  · simp only [decide_eq_true h2, if_true]
    exact Ev.now _
  have e1 : (0 : Nat) + x.length < 17592186044416 := by omega
  have e2 : (0 : Nat) + y.length < 17592186044416 := by omega
  simp only [decide_eq_false h2, Bool.false_eq_true, if_false, bsome, List.length_nil, List.nil_append, if_pos e1, if_pos e2]
  have hp : histogram_Best.f x y = some ((ri x y x.length 0).foldl fin (0, 0, 0, 0, false)) := by
    unfold histogram_Best.f
    rw [if_pos ⟨by omega, by omega, wx, wy⟩, is_eq x y x.length 0 _ (by omega)]
  rw [hp]
  simp only [bsome]
  refine Ev.bind (ref_best x y (by omega) (by omega)) ?_
  simp only [beq_self_eq_true, if_true]
  exact Ev.now _
end Go.Proofs.Ytdcldoembdifpaa.Pure
