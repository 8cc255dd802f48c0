/- PatienceHonest: of any two texts what the program's patience.Diff keeps are pairs of the same class, never more than the least script keeps; texts that are the same, and only these, have no changes; what two texts have in common at the front is kept; and the example by which the statement begins holds. No condition beyond the statement's own. -/
import Derived.Test.YtonbplflmdpikaaZHRh
import Derived.Test.YtonbplflmdpikaaZHXx49
namespace Go.Proofs.Ytonbplflmdpikaa.Pure
set_option linter.unusedVariables false
set_option linter.unusedSimpArgs false
open Go.RowKit Go.Proofs.Ytonbplflmdpikaa.X Go.Proofs.Ytonbplflmdpikaa.Q Go.Proofs.Ytonbplflmdpikaa.Q.P7 Go.Proofs.YtonbplflmdpikaaW.PrintWords Go.Proofs.YtonbplflmdpikaaW.PrintLast Go.Proofs.YtonbplflmdpikaaW.PrintMore
/-- the first change stands behind what is kept in front -/
theorem mk_front (m : Int) : ∀ (n : Nat) (ks : List Int) (i b : Int), mk m (upto b n ++ ks) i i b = mk m ks (i + n) (i + n) (b + n) ∨ b < 0
  | 0, ks, i, b => .inl (by simp [upto])
  | n + 1, ks, i, b => by
    by_cases hb : b < 0
    · exact .inr hb
    · left
      rw [upto, List.cons_append, mk, if_neg (by omega), if_neg (by omega), List.nil_append]
      rcases mk_front m n ks (i + 1) (b + 1) with h | h
      · rw [h, show i + 1 + (n : Int) = i + ((n + 1 : Nat) : Int) from by omega, show b + 1 + (n : Int) = b + ((n + 1 : Nat) : Int) from by omega]
      · omega
theorem mk_from (m : Int) : ∀ (ks : List Int) (i a b : Int), a ≤ i → ∀ c ∈ mk m ks i a b, a ≤ c.f0
  | [], i, a, b, h, c, hc => by
    rw [mk] at hc
    split at hc
    · rw [List.mem_singleton] at hc; subst hc; exact Int.le_refl _
    · cases hc
  | k :: ks, i, a, b, h, c, hc => by
    rw [mk] at hc
    split at hc
    · exact mk_from m ks (i + 1) a b (by omega) c hc
    · rw [List.mem_append] at hc
      rcases hc with hc | hc
      · split at hc
        · rw [List.mem_singleton] at hc; subst hc; exact Int.le_refl _
        · cases hc
      · have := mk_from m ks (i + 1) (i + 1) (k + 1) (by omega) c hc; omega
theorem fr_at (x y : List Int) (b d : Nat) : ∀ q a c, b ≤ a + q → a + fr x y b d q a c < b → c + fr x y b d q a c < d → x.getD (a + fr x y b d q a c) 0 ≠ y.getD (c + fr x y b d q a c) 0 := by
  intro q
  induction q with
  | zero => intro a c h h1 h2; simp only [fr] at h1; omega
  | succ q ih =>
    intro a c h
    rw [fr]
    by_cases g : a < b ∧ c < d ∧ x.getD a 0 = y.getD c 0
    · rw [if_pos g]
      intro h1 h2
      have := ih (a + 1) (c + 1) (by omega) (by omega) (by omega)
      rw [show a + (fr x y b d q (a + 1) (c + 1) + 1) = a + 1 + fr x y b d q (a + 1) (c + 1) from by omega, show c + (fr x y b d q (a + 1) (c + 1) + 1) = c + 1 + fr x y b d q (a + 1) (c + 1) from by omega]
      exact this
    · rw [if_neg g]
      intro h1 h2 e
      exact g ⟨h1, h2, e⟩
theorem PatienceHonest : redlinelaw07_PatienceHonest.Pure := by
  intro x y hx hx8 wx hy hy8 wy
  suffices H : Ev (fun k => redlinelaw07_PatienceHonest.f k x y) true from H.rounds
  unfold redlinelaw07_PatienceHonest.f
  refine Ev.bind works07 ?_
  simp only [if_true]
  have hj : ∀ b : Bool, (b = false → x.length ≤ 400 ∧ y.length ≤ 400) → Ev (fun k => redlinelaw07_PatienceHonest.j0 k x y b) true := by
    intro b hb
    apply Ev_unfold
    cases b with
    | true => simp only [redlinelaw07_PatienceHonest.j0, if_true]; exact Ev.now _
    | false =>
      obtain ⟨hx2, hy2⟩ := hb rfl
      simp only [redlinelaw07_PatienceHonest.j0, Bool.false_eq_true, if_false]
      have hr := PK_row x y (by omega) (by omega)
      have hm := PK_nn x y (by omega) (by omega)
      have hlen := PK_len x y (by omega) (by omega)
      have hok := Go.Proofs.Ytonbplflmdpikaa.Q.Row.ok _ _ _ hr
      have hemp := PK_empty x y (by omega) (by omega)
      obtain ⟨_, ⟨K, hK⟩, _⟩ := PK_all x y (by omega) (by omega)
      have d := diff7_prog x y (by omega) (by omega) wx wy
      rw [show pt x y (x.length + 1) 0 x.length 0 y.length (List.replicate x.length (-1)) = PK x y from rfl] at d
      have e : make (PK x y) y.length = (mk y.length (PK x y) 0 0 0, 0) := by
        unfold make
        rw [if_neg (by omega), if_pos hok]
      rw [e] at d
      refine Ev.bind d ?_
      have hk := keep_mk (PK x y) y.length (by rw [hlen]; omega) (by omega) hok
      rw [hlen] at hk
      refine Ev.bind (honest_of x y (PK x y) _ hlen (by rw [hlen]; omega) (Go.Proofs.Ytonbplflmdpikaa.Q.Row.hon _ _ _ (by omega) hr) hk) ?_
      refine Ev.bind (length_prog x y (by omega) (by omega)) ?_
      simp only [if_true, if_neg (show ¬ ((nn (PK x y) : Nat) : Int) > ((L x y : Nat) : Int) by omega)]
      refine Ev.bind (same_dec x y (by omega)) ?_
      have e0 : ((((mk y.length (PK x y) 0 0 0).length : Nat) : Int) == 0) = decide (x = y) := by
        by_cases h : x = y
        · rw [hemp.2 h, decide_eq_true h]; rfl
        · rw [decide_eq_false h]
          have hne : mk y.length (PK x y) 0 0 0 ≠ [] := fun h2 => h (hemp.1 h2)
          have hl : (mk y.length (PK x y) 0 0 0).length ≠ 0 := fun h2 => hne (List.eq_nil_of_length_eq_zero h2)
          exact beq_eq_false_iff_ne.mpr (by omega)
      simp only [e0, bne_self_eq_false]
      apply Ev_unfold
      simp only [redlinelaw07_PatienceHonest.j1, Bool.false_eq_true, if_false]
      have hfrom : ∀ c ∈ mk y.length (PK x y) 0 0 0, ((fr x y x.length y.length x.length 0 0 : Nat) : Int) ≤ c.f0 := by
        intro c hc
        rw [hK] at hc
        rcases mk_front y.length (fr x y x.length y.length x.length 0 0) K 0 0 with h | h
        · rw [h] at hc
          have := mk_from y.length K _ _ _ (Int.le_refl _) c hc
          omega
        · omega
      obtain ⟨f1, f2, f3⟩ := fr_spec x y x.length y.length x.length 0 0 (by omega) (by omega)
      have f4 := fr_at x y x.length y.length x.length 0 0 (by omega)
      simp only [Nat.zero_add] at f1 f2 f3 f4
      generalize fr x y x.length y.length x.length 0 0 = n at *
      generalize mk y.length (PK x y) 0 0 0 = cs at *
      have hend : ∀ z : Nat, z ≤ n → Ev (fun k => (if (cs.length : Int) = 0 then (some true) else (if 0 < (cs.length : Int) then (some (decide (((rd_T48 cs 0).f0) ≥ (z : Int)))) else (none)))) true := by
        intro z hz
        cases cs with
        | nil => simp only [List.length_nil, Int.natCast_zero, if_true]; exact Ev.now _
        | cons c cs =>
          have h0 := hfrom c (.head _)
          have e0 : ∀ j : Int, j = 0 → rd_T48 (c :: cs) j = c := by intro j hj; subst hj; rfl
          simp only [if_neg (show ¬ (((c :: cs).length : Nat) : Int) = 0 by simp only [List.length_cons]; omega), if_pos (show (0 : Int) < (((c :: cs).length : Nat) : Int) by simp only [List.length_cons]; omega), e0 0 rfl, decide_eq_true (show c.f0 ≥ (z : Int) by omega)]
          exact Ev.now _
      have hloop : ∀ q i : Nat, i + q = n → Ev (fun k => redlinelaw07_PatienceHonest.l0 k x y cs (i : Int)) true := by
        intro q
        induction q with
        | zero =>
          intro i hi
          have hin : i = n := by omega
          subst hin
          apply Ev_unfold
          by_cases g1 : i < x.length
          · by_cases g2 : i < y.length
            · simp only [redlinelaw07_PatienceHonest.l0, if_pos (show (i : Int) < (x.length : Int) by omega), if_pos (show (i : Int) < (y.length : Int) by omega), if_pos (show (0 : Int) ≤ (i : Int) by omega), rd_nat, if_neg (f4 g1 g2)]
              exact hend i (Nat.le_refl _)
            · simp only [redlinelaw07_PatienceHonest.l0, if_pos (show (i : Int) < (x.length : Int) by omega), if_neg (show ¬ (i : Int) < (y.length : Int) by omega)]
              exact hend i (Nat.le_refl _)
          · simp only [redlinelaw07_PatienceHonest.l0, if_neg (show ¬ (i : Int) < (x.length : Int) by omega)]
            exact hend i (Nat.le_refl _)
        | succ q ih =>
          intro i hi
          apply Ev_unfold
          have o1 : i < 4611686018427387904 := by omega
          simp only [redlinelaw07_PatienceHonest.l0, if_pos (show (i : Int) < (x.length : Int) by omega), if_pos (show (i : Int) < (y.length : Int) by omega), if_pos (show (0 : Int) ≤ (i : Int) by omega), rd_nat, if_pos (f3 i (by omega)), wadd i o1]
          exact ih (i + 1) (by omega)
      exact hloop n 0 (by omega)
  by_cases h3 : (x.length : Int) > 400
  · simp only [if_pos h3]; exact hj true (fun h => by cases h)
  · simp only [if_neg h3]; exact hj _ (fun h => by have := of_decide_eq_false h; omega)
end Go.Proofs.Ytonbplflmdpikaa.Pure
