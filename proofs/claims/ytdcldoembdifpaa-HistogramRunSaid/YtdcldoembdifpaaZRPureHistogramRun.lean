/- HistogramRun: of any two texts the run that the program's histogram.Best tells is one: the same in both, as long as can be, and as rare as the rarest line that both have; none is told just if no line is in both; and the example by which the statement begins holds. No condition beyond the statement's own. -/
import Derived.Test.YtdcldoembdifpaaZRQs
import Derived.Test.YtdcldoembdifpaaZRXx58
import Derived.Test.YtdcldoembdifpaaZRXx58D
namespace Go.Proofs.Ytdcldoembdifpaa.Pure
set_option linter.unusedVariables false
set_option linter.unusedSimpArgs false
open Go.RowKit Go.Proofs.Ytdcldoembdifpaa.X Go.Proofs.Ytdcldoembdifpaa.Q Go.Proofs.Ytdcldoembdifpaa.Q.HB Go.Proofs.YtdcldoembdifpaaW.PrintWords Go.Proofs.YtdcldoembdifpaaW.PrintLast Go.Proofs.YtdcldoembdifpaaW.PrintMore
namespace HR
/-- the rarest line of x that y has, too -/
def lst (x y : List Int) : Nat → Nat → Int → Int
  | 0, _, m => m
  | q + 1, i, m => lst x y q (i + 1) (if y.any (fun v => v == x.getD i 0) = true then mn m (hb_cnt x (x.getD i 0)) else m)
theorem lst_spec (x y : List Int) : ∀ q i m, i + q = x.length → lst x y q i m ≤ m ∧ (∀ a b, i ≤ a → a < x.length → b < y.length → x.getD a 0 = y.getD b 0 → lst x y q i m ≤ hb_cnt x (x.getD a 0)) ∧
    (lst x y q i m = m ∨ ∃ a b, a < x.length ∧ b < y.length ∧ x.getD a 0 = y.getD b 0 ∧ lst x y q i m = hb_cnt x (x.getD a 0)) := by
  intro q
  induction q with
  | zero => intro i m h; exact ⟨Int.le_refl _, fun a b h1 h2 => by omega, .inl rfl⟩
  | succ q ih =>
    intro i m h
    rw [lst]
    obtain ⟨i1, i2, i3⟩ := ih (i + 1) (if y.any (fun v => v == x.getD i 0) = true then mn m (hb_cnt x (x.getD i 0)) else m) (by omega)
    generalize lst x y q (i + 1) (if y.any (fun v => v == x.getD i 0) = true then mn m (hb_cnt x (x.getD i 0)) else m) = r at *
    by_cases hy : y.any (fun v => v == x.getD i 0) = true
    · rw [if_pos hy] at i1 i3
      have m1 : mn m (hb_cnt x (x.getD i 0)) ≤ m := by unfold mn; split <;> omega
      have m2 : mn m (hb_cnt x (x.getD i 0)) ≤ hb_cnt x (x.getD i 0) := by unfold mn; split <;> omega
      have m3 : mn m (hb_cnt x (x.getD i 0)) = m ∨ mn m (hb_cnt x (x.getD i 0)) = hb_cnt x (x.getD i 0) := by unfold mn; split <;> simp
      refine ⟨by omega, ?_, ?_⟩
      · intro a b h1 h2 h3 h4
        by_cases e : a = i
        · subst e; omega
        · exact i2 a b (by omega) h2 h3 h4
      · rcases i3 with i3 | i3
        · rcases m3 with m3 | m3
          · left; omega
          · right
            rw [List.any_eq_true] at hy
            obtain ⟨v, hv, e⟩ := hy
            rw [beq_iff_eq] at e
            obtain ⟨b, hb, eb⟩ := List.mem_iff_getElem.1 hv
            refine ⟨i, b, by omega, hb, ?_, by omega⟩
            rw [← e, ← eb]
            simp [List.getD_eq_getElem?_getD, hb]
        · exact .inr i3
    · rw [if_neg hy] at i1 i3
      refine ⟨i1, ?_, i3⟩
      intro a b h1 h2 h3 h4
      by_cases e : a = i
      · subst e
        exfalso
        apply hy
        rw [List.any_eq_true]
        refine ⟨y.getD b 0, ?_, by rw [beq_iff_eq]; exact h4.symm⟩
        rw [List.getD_eq_getElem?_getD, List.getElem?_eq_getElem h3]
        exact List.getElem_mem h3
      · exact i2 a b (by omega) h2 h3 h4
section
variable (x y : List Int) (hx : x.length ≤ 200) (hy : y.length ≤ 200) (f : Bool) (b0 b1 b2 b3 : Int) (R : Bool)
include hx
theorem e1 (m : Int) (z : Nat) (hz : z < x.length) : ∀ d i v, i + d = x.length → 0 ≤ v → v ≤ (i : Int) →
    Ev (fun k => redlinelaw08_HistogramRun.l2 k x y f m (z : Int) (v + hb_cnt (x.drop i) (x.getD z 0)) false 0 b0 b1 b2 b3) R → Ev (fun k => redlinelaw08_HistogramRun.l1 k x y f m (z : Int) v false (i : Int) b0 b1 b2 b3) R := by
  intro d
  induction d with
  | zero =>
    intro i v hi h0 h1 H
    apply Ev_unfold
    simp only [redlinelaw08_HistogramRun.l1, if_neg (show ¬ (i : Int) < (x.length : Int) by omega)]
    rw [List.drop_eq_nil_of_le (by omega)] at H
    simp only [hb_cnt, Int.add_zero] at H
    exact H
  | succ d ih =>
    intro i v hi h0 h1 H
    apply Ev_unfold
    simp only [redlinelaw08_HistogramRun.l1, if_pos (show (i : Int) < (x.length : Int) by omega), if_pos (show (0 : Int) ≤ (i : Int) by omega), if_pos (show (0 : Int) ≤ (z : Int) by omega), if_pos (show (z : Int) < (x.length : Int) by omega), rd_nat]
    rw [drop_cons x i (by omega)] at H
    simp only [hb_cnt] at H
    have o1 : i < 4611686018427387904 := by omega
    have o2 : -9223372036854775808 ≤ v + 1 ∧ v + 1 ≤ 9223372036854775807 := by omega
    by_cases h : x.getD i 0 = x.getD z 0
    · simp only [if_pos h] at H ⊢
      have H2 : Ev (fun k => redlinelaw08_HistogramRun.l2 k x y f m (z : Int) ((v + 1) + hb_cnt (x.drop (i + 1)) (x.getD z 0)) false 0 b0 b1 b2 b3) R := by
        rw [show v + 1 + hb_cnt (x.drop (i + 1)) (x.getD z 0) = v + (1 + hb_cnt (x.drop (i + 1)) (x.getD z 0)) from by omega]; exact H
      have := ih (i + 1) (v + 1) (by omega) (by omega) (by omega) H2
      apply Ev_unfold
      simp only [redlinelaw08_HistogramRun.j3, wadd i o1, w64 _ o2]
      exact this
    · simp only [if_neg h] at H ⊢
      rw [Int.zero_add] at H
      have := ih (i + 1) v (by omega) (by omega) (by omega) H
      apply Ev_unfold
      simp only [redlinelaw08_HistogramRun.j3, wadd i o1]
      exact this
end
section
variable (x y : List Int) (hx : x.length ≤ 200) (hy : y.length ≤ 200) (f : Bool) (b0 b1 b2 b3 : Int) (R : Bool)
include hy
theorem e2 (m n : Int) (z : Nat) (hz : z < x.length) : ∀ d j b, j + d = y.length →
    Ev (fun k => redlinelaw08_HistogramRun.j6 k x y f (if (b || (y.drop j).any (fun v => v == x.getD z 0)) = true then mn m n else m) (z : Int) b0 b1 b2 b3) R → Ev (fun k => redlinelaw08_HistogramRun.l2 k x y f m (z : Int) n b (j : Int) b0 b1 b2 b3) R := by
  intro d
  induction d with
  | zero =>
    intro j b hj H
    apply Ev_unfold
    simp only [redlinelaw08_HistogramRun.l2, if_neg (show ¬ (j : Int) < (y.length : Int) by omega)]
    rw [List.drop_eq_nil_of_le (by omega)] at H
    simp only [List.any_nil, Bool.or_false] at H
    by_cases hb : b = true
    · simp only [if_pos hb] at H ⊢; exact H
    · simp only [if_neg hb] at H ⊢; exact H
  | succ d ih =>
    intro j b hj H
    apply Ev_unfold
    simp only [redlinelaw08_HistogramRun.l2, if_pos (show (j : Int) < (y.length : Int) by omega)]
    rw [drop_cons y j (by omega), List.any_cons] at H
    have o1 : j < 4611686018427387904 := by omega
    by_cases hb : b = true
    · subst hb
      simp only [if_true]
      have := ih (j + 1) true (by omega) (by simpa using H)
      apply Ev_unfold
      simp only [redlinelaw08_HistogramRun.j5, wadd j o1]
      exact this
    · have hb : b = false := by cases b with | false => rfl | true => exact absurd rfl hb
      subst hb
      simp only [Bool.false_eq_true, if_false, if_pos (show (0 : Int) ≤ (j : Int) by omega), if_pos (show (0 : Int) ≤ (z : Int) by omega), if_pos (show (z : Int) < (x.length : Int) by omega), rd_nat]
      have := ih (j + 1) (y.getD j 0 == x.getD z 0) (by omega) (by simpa using H)
      apply Ev_unfold
      simp only [redlinelaw08_HistogramRun.j5, wadd j o1]
      exact this
end
section
variable (x y : List Int) (hx : x.length ≤ 200) (hy : y.length ≤ 200) (f : Bool) (b0 b1 b2 b3 : Int) (R : Bool)
include hx hy
theorem e0 : ∀ d z m, z + d = x.length → Ev (fun k => redlinelaw08_HistogramRun.l0 k x y f (lst x y d z m) (x.length : Int) b0 b1 b2 b3) R → Ev (fun k => redlinelaw08_HistogramRun.l0 k x y f m (z : Int) b0 b1 b2 b3) R := by
  intro d
  induction d with
  | zero =>
    intro z m hz H
    obtain rfl : z = x.length := by omega
    exact H
  | succ d ih =>
    intro z m hz H
    apply Ev_unfold
    simp only [redlinelaw08_HistogramRun.l0, if_pos (show (z : Int) < (x.length : Int) by omega)]
    rw [lst] at H
    have h1 := ih (z + 1) _ (by omega) H
    have o1 : z < 4611686018427387904 := by omega
    refine e1 x y hx f b0 b1 b2 b3 R m z (by omega) x.length 0 0 (by omega) (by omega) (by omega) ?_
    refine e2 x y hy f b0 b1 b2 b3 R m _ z (by omega) y.length 0 false (by omega) ?_
    apply Ev_unfold
    simp only [redlinelaw08_HistogramRun.j6, wadd z o1, List.drop_zero, Bool.false_or, Int.zero_add]
    exact h1
end
end HR
open HR
theorem run_end (x y : List Int) (hx : x.length ≤ 200) (hy : y.length ≤ 200) (i j n : Nat) (rare : Int) (hn : 1 ≤ n) (hR : IsR x y i j n) (hs : 0 < i → 0 < j → x.getD (i - 1) 0 ≠ y.getD (j - 1) 0) :
    Ev (fun k => redlinelaw08_HistogramRun.j7 k x y false (i : Int) (j : Int) (n : Int) rare) true := by
  have hi := hR.hi
  have hj := hR.hj
  have h8 : Ev (fun k => redlinelaw08_HistogramRun.j8 k x y false (i : Int) (j : Int) (n : Int) rare) true := by
    apply Ev_unfold
    have h9 : ∀ b, b = false → Ev (fun k => redlinelaw08_HistogramRun.j9 k false b) true := by
      intro b hb
      subst hb
      apply Ev_unfold
      simp only [redlinelaw08_HistogramRun.j9, Bool.false_eq_true, if_false, Bool.not_false]
      exact Ev.now _
    have o1 : i < 1000000 := by omega
    have o2 : n < 1000000 := by omega
    have o3 : j < 1000000 := by omega
    simp only [redlinelaw08_HistogramRun.j8, wplus i n o1 o2, wplus j n o3 o2]
    by_cases a1 : ((i + n : Nat) : Int) < (x.length : Int)
    · simp only [if_pos a1]
      by_cases a2 : ((j + n : Nat) : Int) < (y.length : Int)
      · simp only [if_pos a2, if_pos (show (0 : Int) ≤ ((i + n : Nat) : Int) by omega), if_pos (show (0 : Int) ≤ ((j + n : Nat) : Int) by omega), rd_nat]
        exact h9 _ (beq_eq_false_iff_ne.mpr (hR.stop (by omega) (by omega)))
      · simp only [if_neg a2]; exact h9 _ rfl
    · simp only [if_neg a1]; exact h9 _ rfl
  apply Ev_unfold
  simp only [redlinelaw08_HistogramRun.j7, Bool.false_eq_true, if_false]
  by_cases a1 : (i : Int) > 0
  · simp only [if_pos a1]
    by_cases a2 : (j : Int) > 0
    · have o1 : 1 ≤ i := by omega
      have o2 : i < 4611686018427387904 := by omega
      have o3 : 1 ≤ j := by omega
      have o4 : j < 4611686018427387904 := by omega
      have hb : (x.getD (i - 1) 0 == y.getD (j - 1) 0) = false := beq_eq_false_iff_ne.mpr (hs o1 o3)
      simp only [if_pos a2, wone i o1 o2, wone j o3 o4, if_pos (show (0 : Int) ≤ ((i - 1 : Nat) : Int) by omega), if_pos (show ((i - 1 : Nat) : Int) < (x.length : Int) by omega), if_pos (show (0 : Int) ≤ ((j - 1 : Nat) : Int) by omega), if_pos (show ((j - 1 : Nat) : Int) < (y.length : Int) by omega), rd_nat, hb]
      exact h8
    · simp only [if_neg a2]; exact h8
  · simp only [if_neg a1]; exact h8
theorem HistogramRun : redlinelaw08_HistogramRun.Pure := by
  intro x y hx hx8 wx hy hy8 wy
  suffices H : Ev (fun k => redlinelaw08_HistogramRun.f k x y) true from H.rounds
  unfold redlinelaw08_HistogramRun.f
  refine Ev.bind works08 ?_
  simp only [if_true]
  have hj : ∀ b : Bool, (b = false → x.length ≤ 200 ∧ y.length ≤ 200) → Ev (fun k => redlinelaw08_HistogramRun.j0 k x y b) true := by
    intro b hb
    apply Ev_unfold
    cases b with
    | true => simp only [redlinelaw08_HistogramRun.j0, if_true]; exact Ev.now _
    | false =>
      obtain ⟨hx2, hy2⟩ := hb rfl
      have ow : x.length < 4611686018427387904 := by omega
      simp only [redlinelaw08_HistogramRun.j0, Bool.false_eq_true, if_false, bst_prog x y (show x.length ≤ 1000000 by omega) (show y.length ≤ 1000000 by omega) wx wy, bsome, wadd x.length ow]
      refine e0 x y hx2 hy2 _ _ _ _ _ _ x.length 0 _ (by omega) ?_
      obtain ⟨s1, s2, s3⟩ := lst_spec x y x.length 0 ((x.length + 1 : Nat) : Int) (by omega)
      generalize lst x y x.length 0 ((x.length + 1 : Nat) : Int) = m at *
      apply Ev_unfold
      simp only [redlinelaw08_HistogramRun.l0, if_neg (show ¬ (x.length : Int) < (x.length : Int) by omega)]
      cases hfd : (bst x y).2.2.2.2 with
      | false =>
        obtain ⟨e, hno⟩ := bst_none x y hfd
        rw [e]
        have hm : m > (x.length : Int) := by
          rcases s3 with s3 | ⟨a, b, h1, h2, h3, _⟩
          · omega
          · exact absurd h3 (hno a b h1 h2)
        simp only [Bool.false_eq_true, if_false, if_pos hm, beq_self_eq_true, Bool.and_true]
        exact Ev.now _
      | true =>
        obtain ⟨i, j, n, rare, e, hn, hR, hs, hle, t, ht, hat⟩ := bst_some x y hfd
        have hi := hR.hi
        have hj := hR.hj
        have hrm : rare = m := by
          have c1 := s2 (i + t) (j + t) (by omega) (by omega) (by omega) (hR.same t ht)
          have c2 := hb_cnt_bound x (x.getD (i + t) 0)
          rcases s3 with s3 | ⟨a, b, h1, h2, h3, h4⟩
          · omega
          · have := hle a b h1 h2 h3; omega
        rw [e]
        have o1 : i < 1000000 := by omega
        have o2 : n < 1000000 := by omega
        have o3 : j < 1000000 := by omega
        have o4 : n ≤ x.length := by omega
        have o5 : n ≤ y.length := by omega
        have o6 : x.length < 4611686018427387904 := by omega
        have o7 : y.length < 4611686018427387904 := by omega
        simp only [if_true, if_neg (show ¬ (i : Int) < 0 by omega), if_neg (show ¬ (j : Int) < 0 by omega), if_neg (show ¬ (n : Int) < 1 by omega), wsub x.length n o4 o6, wsub y.length n o5 o7, if_neg (show ¬ (i : Int) > ((x.length - n : Nat) : Int) by omega), if_neg (show ¬ (j : Int) > ((y.length - n : Nat) : Int) by omega), if_pos hrm, wplus i n o1 o2, wplus j n o3 o2,
          if_pos (show (0 : Int) ≤ (i : Int) by omega), if_pos (show (i : Int) ≤ ((i + n : Nat) : Int) by omega), if_pos (show ((i + n : Nat) : Int) ≤ (x.length : Int) by omega), if_pos (show (0 : Int) ≤ (j : Int) by omega), if_pos (show (j : Int) ≤ ((j + n : Nat) : Int) by omega), if_pos (show ((j + n : Nat) : Int) ≤ (y.length : Int) by omega), Int.toNat_natCast]
        have he : (y.take (j + n)).drop j = (x.take (i + n)).drop i := by
          apply List.ext_getElem (by rw [List.length_drop, List.length_take, List.length_drop, List.length_take]; omega)
          intro q q1 q2
          rw [List.length_drop, List.length_take] at q1
          have hs := hR.same q (by omega)
          rw [List.getElem_drop, List.getElem_take, List.getElem_drop, List.getElem_take]
          simp only [List.getD_eq_getElem?_getD, List.getElem?_eq_getElem (show i + q < x.length by omega), List.getElem?_eq_getElem (show j + q < y.length by omega), Option.getD_some] at hs
          exact hs.symm
        rw [he]
        refine Ev.bind (same_ints _ (by rw [List.length_drop, List.length_take]; omega)) ?_
        simp only [Bool.not_true]
        exact run_end x y hx2 hy2 i j n rare hn hR hs
  by_cases h3 : (x.length : Int) > 200
  · simp only [if_pos h3]; exact hj true (fun h => by cases h)
  · simp only [if_neg h3]; exact hj _ (fun h => by have := of_decide_eq_false h; omega)
end Go.Proofs.Ytdcldoembdifpaa.Pure
