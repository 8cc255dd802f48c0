/- SpeedyHonest: of any two texts, with any bound, what the program's speedy.Diff keeps are pairs of the same class, never more than the least script keeps, and just as many where the bound is great enough; texts that are the same have no changes; and the example by which the statement begins holds. No condition beyond the statement's own. -/
import Derived.Test.YtdcldoembdifpaaQm
import Derived.Test.YtdcldoembdifpaaXx49
namespace Go.Proofs.Ytdcldoembdifpaa.Pure
set_option linter.unusedVariables false
set_option linter.unusedSimpArgs false
open Go.RowKit Go.Proofs.Ytdcldoembdifpaa.X Go.Proofs.Ytdcldoembdifpaa.Q Go.Proofs.YtdcldoembdifpaaW.PrintWords Go.Proofs.YtdcldoembdifpaaW.PrintLast Go.Proofs.YtdcldoembdifpaaW.PrintMore

theorem works09 : Ev (fun k => redlinelaw09_works.f k) true := by
  have c1 : cp [1, 2, 3] [2, 3, 1] = 0 := by simp [cp]
  have s1 : sb [1, 2, 3] [2, 3, 1] 0 3 3 = (3, 3) := by simp [sb]
  have m1 : mid [1, 2, 3] [2, 3, 1] 8 0 3 3 = [2, -1, -1] := by
    unfold mid
    rw [if_neg (by unfold mx; simp)]
    simp [QG.gr, QG.keep1, QG.lim, QG.seek]
  have m2 : mid [1, 2, 3] [2, 3, 1] 9 0 3 3 = [-1, 0, 1] := by
    unfold mid
    rw [if_pos (by unfold mx; simp)]
    simp [kp_cons, L_cons, kp_nil, L_nil_l, L_nil_r]
  have k1 : KK [1, 2, 3] [2, 3, 1] 8 = [2, -1, -1] := by
    unfold KK
    simp only [c1, List.length_cons, List.length_nil, Nat.zero_add, Nat.reduceAdd, s1]
    simp [List.range, List.range.loop, Kat, m1, wrap64]
  have k2 : KK [1, 2, 3] [2, 3, 1] 9 = [-1, 0, 1] := by
    unfold KK
    simp only [c1, List.length_cons, List.length_nil, Nat.zero_add, Nat.reduceAdd, s1]
    simp [List.range, List.range.loop, Kat, m2, wrap64]
  have d1 := speedy_prog [1, 2, 3] [2, 3, 1] (by simp) (by simp) 8
  have d2 := speedy_prog [1, 2, 3] [2, 3, 1] (by simp) (by simp) 9
  have e1 : make [2, -1, -1] ((([2, 3, 1] : List Int).length : Nat) : Int) = ([⟨0, 0, 0, 2⟩, ⟨1, 2, 3, 0⟩], 0) := by simp [make, okK, mk]
  have e2 : make [-1, 0, 1] ((([2, 3, 1] : List Int).length : Nat) : Int) = ([⟨0, 1, 0, 0⟩, ⟨3, 0, 2, 1⟩], 0) := by simp [make, okK, mk]
  rw [k1, e1] at d1
  rw [k2, e2] at d2
  unfold redlinelaw09_works.f
  refine Ev.bind d1 ?_
  refine Ev.bind d2 ?_
  simp only [if_true]
  refine Ev.bind (same_ch _ (by simp)) ?_
  simp only [if_true]
  refine Ev.bind (same_ch _ (by simp)) ?_
  exact Ev.now _

theorem SpeedyHonest : redlinelaw09_SpeedyHonest.Pure := by
  intro x y bound hx hx8 _ hy hy8 _ hbw
  suffices H : Ev (fun k => redlinelaw09_SpeedyHonest.f k x y bound) true from H.rounds
  unfold redlinelaw09_SpeedyHonest.f
  refine Ev.bind works09 ?_
  simp only [if_true]
  have hj : ∀ b : Bool, (b = false → x.length ≤ 400 ∧ y.length ≤ 400) → Ev (fun k => redlinelaw09_SpeedyHonest.j0 k x y bound b) true := by
    intro b hb
    apply Ev_unfold
    cases b with
    | true => simp only [redlinelaw09_SpeedyHonest.j0, if_true]; exact Ev.now _
    | false =>
      obtain ⟨hx2, hy2⟩ := hb rfl
      simp only [redlinelaw09_SpeedyHonest.j0, Bool.false_eq_true, if_false]
      obtain ⟨hr, hm, heq⟩ := KK_row x y (by omega) (by omega) bound
      have hok := Go.Proofs.Ytdcldoembdifpaa.Q.Row.ok _ _ _ hr
      have hemp := KK_empty x y (by omega) (by omega) bound
      have d := speedy_prog x y (by omega) (by omega) bound
      have e : make (KK x y bound) y.length = (mk y.length (KK x y bound) 0 0 0, 0) := by
        unfold make
        rw [if_neg (by omega), if_pos hok]
      rw [e] at d
      refine Ev.bind d ?_
      have hk := keep_mk (KK x y bound) y.length (by rw [KK_len]; omega) (by omega) hok
      rw [KK_len] at hk
      refine Ev.bind (honest_of x y (KK x y bound) _ (KK_len x y bound) (by rw [KK_len]; omega) (Go.Proofs.Ytdcldoembdifpaa.Q.Row.hon _ _ _ (by omega) hr) hk) ?_
      refine Ev.bind (length_prog x y (by omega) (by omega)) ?_
      simp only [if_true, if_pos (show ((nn (KK x y bound) : Nat) : Int) ≤ ((L x y : Nat) : Int) by omega)]
      have hmul : wrap64 ((x.length : Int) * (y.length : Int)) = ((x.length * y.length : Nat) : Int) := by
        have h2 : x.length * y.length ≤ 400 * 400 := Nat.mul_le_mul hx2 hy2
        rw [← Int.natCast_mul, w64 _ (by omega)]
      have hfin : Ev (fun k => (redlineref04_SameInts.f k x y).bind fun t => some ((((mk y.length (KK x y bound) 0 0 0).length : Int) == 0) == t)) true := by
        refine Ev.bind (same_dec x y (by omega)) ?_
        have e0 : ((((mk y.length (KK x y bound) 0 0 0).length : Nat) : Int) == 0) = decide (x = y) := by
          by_cases h : x = y
          · rw [hemp.2 h, decide_eq_true h]; rfl
          · rw [decide_eq_false h]
            have hne : mk y.length (KK x y bound) 0 0 0 ≠ [] := fun h2 => h (hemp.1 h2)
            have hl : (mk y.length (KK x y bound) 0 0 0).length ≠ 0 := fun h2 => hne (List.eq_nil_of_length_eq_zero h2)
            exact beq_eq_false_iff_ne.mpr (by omega)
        simp only [e0, beq_self_eq_true]
        exact Ev.now _
      rw [hmul]
      by_cases hb : bound < ((x.length * y.length : Nat) : Int)
      · simp only [if_pos hb]; exact hfin
      · simp only [if_neg hb, if_pos (show ((nn (KK x y bound) : Nat) : Int) = ((L x y : Nat) : Int) by rw [heq (by omega)])]
        exact hfin
  by_cases h3 : (x.length : Int) > 400
  · simp only [if_pos h3]; exact hj true (fun h => by cases h)
  · simp only [if_neg h3]; exact hj _ (fun h => by have := of_decide_eq_false h; omega)
end Go.Proofs.Ytdcldoembdifpaa.Pure
