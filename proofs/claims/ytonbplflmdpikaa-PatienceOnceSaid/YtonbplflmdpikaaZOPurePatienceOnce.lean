/- PatienceOnce: lines that are there once in each of two texts, and stand in one order in both, are all kept by the program's patience.Diff where the texts have neither the first nor the last line in common; and the example by which the statement begins holds. No condition beyond the statement's own. -/
import Derived.Test.YtonbplflmdpikaaZORh
import Derived.Test.YtonbplflmdpikaaZORg
import Derived.Test.YtonbplflmdpikaaZOXx46
namespace Go.Proofs.Ytonbplflmdpikaa.Pure
set_option linter.unusedVariables false
set_option linter.unusedSimpArgs false
open Go.RowKit Go.Proofs.Ytonbplflmdpikaa.X Go.Proofs.Ytonbplflmdpikaa.Q Go.Proofs.Ytonbplflmdpikaa.Q.P7 Go.Proofs.YtonbplflmdpikaaW.PrintWords Go.Proofs.YtonbplflmdpikaaW.PrintLast Go.Proofs.YtonbplflmdpikaaW.PrintMore
/-! a row that rises is its own longest rising row -/
def down : Nat → List Int
  | 0 => []
  | n + 1 => ((n : Int) + 1) :: down n
theorem best_down (p : Pr) : ∀ (qs : List Pr) (m : Int), (∀ q ∈ qs, rises p q) → 0 ≤ m → pl_best p qs (down qs.length) m = mx m (qs.length : Int) := by
  intro qs
  induction qs with
  | nil => intro m _ h; simp only [pl_best, List.length_nil]; unfold mx; split <;> omega
  | cons q qs ih =>
    intro m hq h
    rw [List.length_cons, down, pl_best, if_pos (hq q (.head _)), ih _ (fun r hr => hq r (.tail _ hr)) (by unfold mx; split <;> omega)]
    unfold mx
    repeat' split
    all_goals omega
theorem long_down : ∀ ps : List Pr, ps.Pairwise rises → pl_long ps = down ps.length := by
  intro ps
  induction ps with
  | nil => intro _; rfl
  | cons p ps ih =>
    intro h
    rw [List.pairwise_cons] at h
    rw [pl_long, ih h.2, best_down p ps 0 h.1 (Int.le_refl _), List.length_cons, down]
    congr 1
    unfold mx
    split <;> omega
theorem sel_down : ∀ (ps out : List Pr), (out ++ ps).Pairwise rises → pl_sel ps (down ps.length) (ps.length : Int) out = out ++ ps := by
  intro ps
  induction ps with
  | nil => intro out _; simp [pl_sel]
  | cons p ps ih =>
    intro out h
    have hp : out = [] ∨ rises (out.getLastD z27) p := by
      by_cases he : out = []
      · exact .inl he
      · right
        rw [List.pairwise_append] at h
        have : out.getLastD z27 = out.getLast he := by rw [List.getLastD_eq_getLast?, List.getLast?_eq_some_getLast he]; rfl
        rw [this]
        exact h.2.2 _ (List.getLast_mem he) p (.head _)
    rw [List.length_cons, down, pl_sel, if_pos ⟨by omega, hp⟩, show ((ps.length + 1 : Nat) : Int) - 1 = (ps.length : Int) from by omega, ih (out ++ [p]) (by rw [List.append_assoc, List.singleton_append]; exact h)]
    simp
theorem max_down (n : Nat) : pl_max (down n) = (n : Int) := by
  have h : ∀ (n : Nat) (m : Int), (n : Int) ≤ m → (down n).foldl mx m = m := by
    intro n
    induction n with
    | zero => intro m _; rfl
    | succ n ih =>
      intro m hm
      rw [down, List.foldl_cons, show mx m ((n : Int) + 1) = m from by unfold mx; split <;> omega]
      exact ih m (by omega)
  cases n with
  | zero => rfl
  | succ n => rw [down, pl_max, h n _ (by omega)]; omega
theorem lrow_id (l : List Pr) (h : l.Pairwise rises) : lrow l = l := by
  unfold lrow
  rw [long_down l h, max_down, sel_down l [] (by rw [List.nil_append]; exact h), List.nil_append]
/-- the first places rise -/
theorem rows_up (x y : List Int) : ∀ q i, i + q = x.length → (pu_rows x y q i).Pairwise (fun a b => a.f0 < b.f0) := by
  intro q
  induction q with
  | zero => intro i _; exact List.Pairwise.nil
  | succ q ih =>
    intro i hi
    rw [pu_rows, List.pairwise_append]
    refine ⟨?_, ih (i + 1) (by omega), ?_⟩
    · split
      · exact List.pairwise_singleton _ _
      · exact List.Pairwise.nil
    · intro a ha b hb
      have h2 := (rows_isP x y b q (i + 1) (by omega) hb).2
      split at ha
      · rw [List.mem_singleton] at ha; subst ha; dsimp only; omega
      · cases ha
theorem pair_of (l : List Pr) (h1 : l.Pairwise (fun a b => a.f0 < b.f0)) (h2 : ∀ i, i + 1 < l.length → (l.getD i z27).f1 < (l.getD (i + 1) z27).f1) : l.Pairwise rises := by
  induction l with
  | nil => exact List.Pairwise.nil
  | cons p l ih =>
    rw [List.pairwise_cons] at h1 ⊢
    have hl := ih h1.2 (fun i hi => by
      have := h2 (i + 1) (by rw [List.length_cons]; omega)
      simp only [List.getD_cons_succ] at this
      exact this)
    refine ⟨?_, hl⟩
    intro q hq
    refine ⟨h1.1 q hq, ?_⟩
    cases l with
    | nil => cases hq
    | cons r l =>
      have h0 := h2 0 (by simp)
      simp only [List.getD_cons_zero, List.getD_cons_succ, Nat.zero_add] at h0
      cases hq with
      | head => exact h0
      | tail _ hq =>
        rw [List.pairwise_cons] at hl
        have := (hl.1 q hq).2
        omega
theorem PatienceOnce : redlinelaw07_PatienceOnce.Pure := by
  intro x y hx hx8 wx hy hy8 wy
  suffices H : Ev (fun k => redlinelaw07_PatienceOnce.f k x y) true from H.rounds
  unfold redlinelaw07_PatienceOnce.f
  refine Ev.bind works07 ?_
  simp only [if_true]
  have hj1 : ∀ b : Bool, (b = false → x.length ≤ 150 ∧ y.length ≤ 150 ∧ 0 < x.length ∧ 0 < y.length ∧ x.getD 0 0 ≠ y.getD 0 0 ∧ x.getD (x.length - 1) 0 ≠ y.getD (y.length - 1) 0) → Ev (fun k => redlinelaw07_PatienceOnce.j1 k x y b) true := by
    intro b hb
    apply Ev_unfold
    cases b with
    | true => simp only [redlinelaw07_PatienceOnce.j1, if_true]; exact Ev.now _
    | false =>
      obtain ⟨hx2, hy2, hx0, hy0, hne1, hne2⟩ := hb rfl
      simp only [redlinelaw07_PatienceOnce.j1, Bool.false_eq_true, if_false]
      have hu := uniq_ref x y (by omega) (by omega)
      rw [← rows_eq] at hu
      refine Ev.bind hu ?_
      have hup := rows_up x y x.length 0 (by omega)
      have hlen0 := rows_len x y x.length 0
      have hall := (PK_all x y (by omega) (by omega)).2.2 hx0 hy0 hne1 hne2
      have hP := fun p hp => (rows_isP x y p x.length 0 (by omega) hp).1
      rw [show trow x y = lrow (pu_rows x y x.length 0) from rfl] at hall
      generalize pu_rows x y x.length 0 = u at *
      have hend : u.Pairwise rises → Ev (fun k => (patience_Diff.f k x y).bind fun bt428 => (if bt428.2 = 0 then ((redlineref05_Keep.f k bt428.1 (x.length : Int) (y.length : Int)).bind fun bt432 => (if bt432.2 = 0 then (redlinelaw07_PatienceOnce.l1 k (u.map toR) bt432.1 0) else (some false))) else (some false))) true := by
        intro hrise
        rw [lrow_id u hrise] at hall
        have hr := PK_row x y (by omega) (by omega)
        have hlen := PK_len x y (by omega) (by omega)
        have hok := Go.Proofs.Ytonbplflmdpikaa.Q.Row.ok _ _ _ hr
        have d := diff7_prog x y (by omega) (by omega) wx wy
        rw [show pt x y (x.length + 1) 0 x.length 0 y.length (List.replicate x.length (-1)) = PK x y from rfl] at d
        have e : make (PK x y) y.length = (mk y.length (PK x y) 0 0 0, 0) := by
          unfold make
          rw [if_neg (by omega), if_pos hok]
        rw [e] at d
        refine Ev.bind d ?_
        simp only [if_true]
        have hk := K5.keep_ref (PK x y) y.length (by rw [hlen]; omega) (by omega) hok
        rw [hlen] at hk
        refine Ev.bind hk ?_
        simp only [if_true]
        have hloop : ∀ q i : Nat, i + q = u.length → Ev (fun k => redlinelaw07_PatienceOnce.l1 k (u.map toR) (PK x y) (i : Int)) true := by
          intro q
          induction q with
          | zero =>
            intro i hi
            apply Ev_unfold
            simp only [redlinelaw07_PatienceOnce.l1, List.length_map, if_neg (show ¬ (i : Int) < (u.length : Int) by omega)]
            exact Ev.now _
          | succ q ih =>
            intro i hi
            apply Ev_unfold
            have o1 : i < 4611686018427387904 := by omega
            have hmem : u.getD i z27 ∈ u := by
              rw [List.getD_eq_getElem?_getD, List.getElem?_eq_getElem (show i < u.length by omega)]
              exact List.getElem_mem (show i < u.length by omega)
            have h1 := hall _ hmem
            obtain ⟨s, t, hst, s1, s2, _⟩ := hP _ hmem
            rw [hst] at h1
            simp only [Int.toNat_natCast] at h1
            simp only [redlinelaw07_PatienceOnce.l1, List.length_map, if_pos (show (i : Int) < (u.length : Int) by omega), if_pos (show (0 : Int) ≤ (i : Int) by omega), rdR_map, hst, toR, if_pos (show (0 : Int) ≤ (s : Int) by omega), hlen, if_pos (show (s : Int) < (x.length : Int) by omega), rd_nat, h1, if_true, wadd i o1]
            exact ih (i + 1) (by omega)
        exact hloop u.length 0 (by omega)
      have hloop : ∀ q i : Nat, 1 ≤ i → (i ≤ u.length → i + q = u.length) → (u.length < i → q = 0) → (∀ j, j + 1 < i → j + 1 < u.length → (u.getD j z27).f1 < (u.getD (j + 1) z27).f1) → Ev (fun k => redlinelaw07_PatienceOnce.l0 k x y (u.map toR) (i : Int)) true := by
        intro q
        induction q with
        | zero =>
          intro i h1 h2 h3 h4
          apply Ev_unfold
          simp only [redlinelaw07_PatienceOnce.l0, List.length_map, if_neg (show ¬ (i : Int) < (u.length : Int) by omega)]
          exact hend (pair_of u hup (fun j hj => h4 j (by omega) hj))
        | succ q ih =>
          intro i h1 h2 h3 h4
          have hi : i < u.length := by omega
          apply Ev_unfold
          have o1 : i < 4611686018427387904 := by omega
          simp only [redlinelaw07_PatienceOnce.l0, List.length_map, if_pos (show (i : Int) < (u.length : Int) by omega), if_pos (show (0 : Int) ≤ (i : Int) by omega), wone i h1 o1, if_pos (show (0 : Int) ≤ ((i - 1 : Nat) : Int) by omega), if_pos (show ((i - 1 : Nat) : Int) < (u.length : Int) by omega), rdR_map, toR, wadd i o1]
          by_cases c : (u.getD i z27).f1 ≤ (u.getD (i - 1) z27).f1
          · simp only [if_pos c]
            exact Ev.now _
          · simp only [if_neg c]
            refine ih (i + 1) (by omega) (fun _ => by omega) (fun _ => by omega) ?_
            intro j hj hj2
            by_cases e : j + 1 < i
            · exact h4 j e hj2
            · have : j = i - 1 := by omega
              subst this
              rw [show i - 1 + 1 = i from by omega]
              omega
      exact hloop (u.length - 1) 1 (Nat.le_refl _) (fun _ => by omega) (fun _ => by omega) (fun j hj => by omega)
  have hj : ∀ b : Bool, (b = false → x.length ≤ 150 ∧ y.length ≤ 150) → Ev (fun k => redlinelaw07_PatienceOnce.j0 k x y b) true := by
    intro b hb
    apply Ev_unfold
    cases b with
    | true => simp only [redlinelaw07_PatienceOnce.j0, if_true]; exact Ev.now _
    | false =>
      obtain ⟨hx2, hy2⟩ := hb rfl
      simp only [redlinelaw07_PatienceOnce.j0, Bool.false_eq_true, if_false]
      by_cases h1 : (x.length : Int) = 0
      · simp only [if_pos h1]; exact hj1 true (fun h => by cases h)
      simp only [if_neg h1]
      by_cases h2 : (y.length : Int) = 0
      · simp only [if_pos h2]; exact hj1 true (fun h => by cases h)
      simp only [if_neg h2, if_pos (show (0 : Int) < (x.length : Int) by omega), if_pos (show (0 : Int) < (y.length : Int) by omega)]
      have r0 : ∀ (z : List Int), rd z 0 = z.getD 0 0 := fun z => rd_nat z 0
      by_cases h3 : rd x 0 = rd y 0
      · simp only [if_pos h3]; exact hj1 true (fun h => by cases h)
      simp only [if_neg h3]
      rw [r0, r0] at h3
      have hx0 : 1 ≤ x.length := by omega
      have hy0 : 1 ≤ y.length := by omega
      have ox : x.length < 4611686018427387904 := by omega
      have oy : y.length < 4611686018427387904 := by omega
      simp only [wone x.length hx0 ox, wone y.length hy0 oy, if_pos (show (0 : Int) ≤ ((x.length - 1 : Nat) : Int) by omega), if_pos (show (0 : Int) ≤ ((y.length - 1 : Nat) : Int) by omega), if_pos (show ((x.length - 1 : Nat) : Int) < (x.length : Int) by omega), if_pos (show ((y.length - 1 : Nat) : Int) < (y.length : Int) by omega), rd_nat]
      refine hj1 _ (fun h => ?_)
      rw [beq_eq_false_iff_ne] at h
      exact ⟨hx2, hy2, by omega, by omega, h3, h⟩
  by_cases h3 : (x.length : Int) > 150
  · simp only [if_pos h3]; exact hj true (fun h => by cases h)
  · simp only [if_neg h3]; exact hj _ (fun h => by have := of_decide_eq_false h; omega)
end Go.Proofs.Ytonbplflmdpikaa.Pure
