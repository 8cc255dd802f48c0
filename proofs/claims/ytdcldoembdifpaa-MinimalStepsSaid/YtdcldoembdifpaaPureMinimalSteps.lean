/- MinimalSteps: a line more, anywhere in one text, lets at most one line more be kept, and never one fewer; texts that are put behind both keep at least what each pair keeps; and the example by which chapter 6's statements begin holds. No condition beyond the statement's own. -/
import Derived.Test.YtdcldoembdifpaaQf
import Derived.Test.YtdcldoembdifpaaXx31
namespace Go.Proofs.Ytdcldoembdifpaa.Pure
set_option linter.unusedVariables false
set_option linter.unusedSimpArgs false
open Go.RowKit Go.Proofs.Ytdcldoembdifpaa.X Go.Proofs.Ytdcldoembdifpaa.Q Go.Proofs.YtdcldoembdifpaaW.PrintWords Go.Proofs.YtdcldoembdifpaaW.PrintLast Go.Proofs.YtdcldoembdifpaaW.PrintMore

theorem place (n : Nat) (hn : n ≤ 200) (a : Int) : IntKind.u64.wrap (wrap64 ((n : Int) + 1)) ≠ 0 ∧ ∃ r : Nat, r ≤ n ∧ wrap64 (Int.tmod (IntKind.u64.wrap a) (IntKind.u64.wrap (wrap64 ((n : Int) + 1)))) = (r : Int) := by
  have e : IntKind.u64.wrap (wrap64 ((n : Int) + 1)) = ((n + 1 : Nat) : Int) := by
    rw [w64 _ (by omega), IntKind.wrap_u64]; omega
  have hA : 0 ≤ IntKind.u64.wrap a := by rw [IntKind.wrap_u64]; omega
  rw [e]
  refine ⟨by omega, ?_⟩
  obtain ⟨A, hA2⟩ := Int.eq_ofNat_of_zero_le hA
  rw [hA2]
  refine ⟨A % (n + 1), by have := Nat.mod_lt A (show n + 1 > 0 by omega); omega, ?_⟩
  have h2 : Int.tmod (A : Int) ((n + 1 : Nat) : Int) = ((A % (n + 1) : Nat) : Int) := by rw [Int.ofNat_tmod]
  rw [h2]
  have := Nat.mod_lt A (show n + 1 > 0 by omega)
  exact w64 _ (by omega)

theorem MinimalSteps : redlinelaw06_MinimalSteps.Pure := by
  intro x y at_ c u v hx _ _ hy _ _ _ _ hu _ _ hv _ _
  suffices H : Ev (fun k => redlinelaw06_MinimalSteps.f k x y at_ c u v) true from H.rounds
  unfold redlinelaw06_MinimalSteps.f
  refine Ev.bind works06 ?_
  simp only [if_true]
  have hj : ∀ b : Bool, (b = false → x.length ≤ 200 ∧ y.length ≤ 200 ∧ u.length ≤ 100 ∧ v.length ≤ 100) → Ev (fun k => redlinelaw06_MinimalSteps.j0 k x y at_ c u v b) true := by
    intro b hb
    apply Ev_unfold
    cases b with
    | true => simp only [redlinelaw06_MinimalSteps.j0, if_true]; exact Ev.now _
    | false =>
      obtain ⟨h1, h2, h3, h4⟩ := hb rfl
      obtain ⟨p1, r, p2, p3⟩ := place x.length h1 at_
      have o1 : (0 : Int) ≤ (r : Int) := by omega
      have o2 : (r : Int) ≤ (x.length : Int) := by omega
      have o3 : 0 + (x.take r).length < 17592186044416 := by rw [List.length_take]; omega
      have o4 : (x.take r).length + ([c] : List Int).length < 17592186044416 := by rw [List.length_take]; simp; omega
      have o5 : (x.take r ++ [c]).length + (x.drop r).length < 17592186044416 := by simp; omega
      have o6 : 0 + x.length < 17592186044416 := by omega
      have o7 : x.length + u.length < 17592186044416 := by omega
      have o8 : 0 + y.length < 17592186044416 := by omega
      have o9 : y.length + v.length < 17592186044416 := by omega
      have l1 : (x.take r ++ [c] ++ x.drop r).length ≤ 4096 := by simp; omega
      have l2 : (x ++ u).length ≤ 4096 := by rw [List.length_append]; omega
      have l3 : (y ++ v).length ≤ 4096 := by rw [List.length_append]; omega
      have b1 := L_le_l x y
      have b2 := L_le_l u v
      have i1 := L_insert (x.take r) (x.drop r) y c
      rw [List.take_append_drop, show x.take r ++ c :: x.drop r = x.take r ++ [c] ++ x.drop r from by simp] at i1
      have i2 := L_append x y u v
      have q1 : -9223372036854775808 ≤ ((L x y : Nat) : Int) + ((L u v : Nat) : Int) ∧ ((L x y : Nat) : Int) + ((L u v : Nat) : Int) ≤ 9223372036854775807 := by omega
      have q2 : -9223372036854775808 ≤ ((L x y : Nat) : Int) + 1 ∧ ((L x y : Nat) : Int) + 1 ≤ 9223372036854775807 := by omega
      have q3 : decide (((L (x ++ u) (y ++ v) : Nat) : Int) ≥ ((L x y : Nat) : Int) + ((L u v : Nat) : Int)) = true := decide_eq_true (by omega)
      have hend : Ev (fun k => redlinelaw06_MinimalSteps.j1 k true) true := by
        apply Ev_unfold
        simp only [redlinelaw06_MinimalSteps.j1]
        exact Ev.now _
      simp only [redlinelaw06_MinimalSteps.j0, Bool.false_eq_true, if_false]
      refine Ev.bind (length_prog x y (by omega) (by omega)) ?_
      simp only [if_neg p1, p3, if_pos o1, if_pos o2, bsome, List.length_nil, List.nil_append, Int.toNat_natCast, if_pos o3, if_pos o4, if_pos o5]
      refine Ev.bind (length_prog _ y l1 (by omega)) ?_
      refine Ev.bind (length_prog u v (by omega) (by omega)) ?_
      simp only [if_pos o6, if_pos o7, if_pos o8, if_pos o9]
      refine Ev.bind (length_prog _ _ l2 l3) ?_
      simp only [if_true, w64 _ q1, w64 _ q2, q3]
      by_cases e1 : ((L (x.take r ++ [c] ++ x.drop r) y : Nat) : Int) = ((L x y : Nat) : Int)
      · simp only [if_pos e1]; exact hend
      · simp only [if_neg e1, if_pos (show ((L (x.take r ++ [c] ++ x.drop r) y : Nat) : Int) = ((L x y : Nat) : Int) + 1 by omega)]
        exact hend
  by_cases a1 : (x.length : Int) > 200
  · simp only [if_pos a1]; exact hj true (fun h => by cases h)
  simp only [if_neg a1]
  by_cases a2 : (y.length : Int) > 200
  · simp only [if_pos a2]; exact hj true (fun h => by cases h)
  simp only [if_neg a2]
  by_cases a3 : (u.length : Int) > 100
  · simp only [if_pos a3]; exact hj true (fun h => by cases h)
  simp only [if_neg a3]
  exact hj _ (fun h => by have := of_decide_eq_false h; omega)
end Go.Proofs.Ytdcldoembdifpaa.Pure
