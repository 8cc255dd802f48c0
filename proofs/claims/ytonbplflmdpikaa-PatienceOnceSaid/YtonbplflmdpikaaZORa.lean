/- plain: which lines are there once, and the longest rising row of pairs: the program's answer and the reference's -/
import Derived.Test.YtonbplflmdpikaaZOQa
import Derived.Test.YtonbplflmdpikaaZOXx10
import Derived.Test.YtonbplflmdpikaaZOXx4
import Derived.Test.YtonbplflmdpikaaZOXx5
import Derived.Test.YtonbplflmdpikaaZOXx6
import Derived.Test.YtonbplflmdpikaaZOXx8
namespace Go.Proofs.Ytonbplflmdpikaa.Q
set_option linter.unusedVariables false
set_option linter.unusedSimpArgs false
open Go.RowKit Go.Proofs.Ytonbplflmdpikaa.X Go.Proofs.YtonbplflmdpikaaW.PrintWords Go.Proofs.YtonbplflmdpikaaW.PrintLast Go.Proofs.YtonbplflmdpikaaW.PrintMore
namespace P7
-- model of the reference
def ru_in (y : List Int) (c : Int) (i : Nat) : Nat → Nat → List S26
  | 0, _ => []
  | q + 1, j => (if y.getD j 0 = c then [⟨(i : Int), (j : Int)⟩] else []) ++ ru_in y c i q (j + 1)
def ru_rows (x y : List Int) : Nat → Nat → List S26
  | 0, _ => []
  | q + 1, i => (if pu_cnt x (x.getD i 0) x.length ≠ 1 ∨ pu_cnt y (x.getD i 0) y.length ≠ 1 then [] else ru_in y (x.getD i 0) i y.length 0) ++ ru_rows x y q (i + 1)
def toR (p : S27) : S26 := ⟨p.f0, p.f1⟩
def ru_pre (y : List Int) (c : Int) (i : Nat) : Nat → List S26
  | 0 => []
  | n + 1 => ru_pre y c i n ++ (if y.getD n 0 = c then [⟨(i : Int), (n : Int)⟩] else [])
theorem ru_pre_in (y : List Int) (c : Int) (i : Nat) : ∀ q j, ru_pre y c i j ++ ru_in y c i q j = ru_pre y c i (j + q) := by
  intro q
  induction q with
  | zero => intro j; simp [ru_in]
  | succ q ih => intro j; rw [ru_in, ← List.append_assoc, show j + (q + 1) = (j + 1) + q from by omega, ← ih (j + 1), ru_pre]
theorem ru_pre_one (y : List Int) (c : Int) (i : Nat) : ∀ n, (pu_cnt y c n = 0 → ru_pre y c i n = []) ∧ (pu_cnt y c n = 1 → ru_pre y c i n = [⟨(i : Int), pu_last y c n⟩]) := by
  intro n
  induction n with
  | zero => simp [pu_cnt, ru_pre]
  | succ n ih =>
    have := pu_cnt_bd y c n
    rw [pu_cnt, ru_pre, pu_last]
    by_cases h : y.getD n 0 = c
    · rw [if_pos h, if_pos h, if_pos h]
      refine ⟨fun e => by omega, fun e => ?_⟩
      rw [ih.1 (by omega), List.nil_append]
    · rw [if_neg h, if_neg h, if_neg h, Int.add_zero, List.append_nil]
      exact ih
theorem rows_eq (x y : List Int) : ∀ q i, (pu_rows x y q i).map toR = ru_rows x y q i := by
  intro q
  induction q with
  | zero => intro i; rfl
  | succ q ih =>
    intro i
    rw [pu_rows, ru_rows, List.map_append, ih]
    congr 1
    by_cases h : pu_cnt x (x.getD i 0) x.length = 1 ∧ pu_cnt y (x.getD i 0) y.length = 1
    · rw [if_pos h, if_neg (by rintro (e | e); exact e h.1; exact e h.2)]
      have h1 := ru_pre_in y (x.getD i 0) i y.length 0
      rw [ru_pre, List.nil_append, Nat.zero_add] at h1
      rw [h1, (ru_pre_one y (x.getD i 0) i y.length).2 h.2]
      rfl
    · rw [if_neg h, if_pos (by by_cases e : pu_cnt x (x.getD i 0) x.length = 1; exact .inr (fun e2 => h ⟨e, e2⟩); exact .inl e)]
      rfl
-- Longest
def rises (a b : S27) : Prop := a.f0 < b.f0 ∧ a.f1 < b.f1
instance (a b : S27) : Decidable (rises a b) := by unfold rises; exact inferInstance
def pl_best (p : S27) : List S27 → List Int → Int → Int
  | q :: qs, n :: ns, m => pl_best p qs ns (if rises p q then mx m n else m)
  | _, _, m => m
def pl_long : List S27 → List Int
  | [] => []
  | p :: ps => (pl_best p ps (pl_long ps) 0 + 1) :: pl_long ps
def pl_sel : List S27 → List Int → Int → List S27 → List S27
  | p :: ps, n :: ns, want, out => if n = want ∧ (out = [] ∨ rises (out.getLastD z27) p) then pl_sel ps ns (want - 1) (out ++ [p]) else pl_sel ps ns want out
  | _, _, _, out => out
def pl_max : List Int → Int
  | [] => 0
  | n :: ns => ns.foldl mx n
-- the reference's
def rl_best (p : S27) : List S27 → List Int → Int → Int
  | q :: qs, n :: ns, m => rl_best p qs ns (if rises p q then mx m (n + 1) else m)
  | _, _, m => m
def rl_long : List S27 → List Int
  | [] => []
  | p :: ps => rl_best p ps (rl_long ps) 1 :: rl_long ps
def rl_most : List Int → Int
  | [] => 0
  | n :: ns => mx (rl_most ns) n
theorem best_nn (p : S27) : ∀ qs ns m, m ≤ pl_best p qs ns m := by
  intro qs
  induction qs with
  | nil => intro ns m; exact Int.le_refl _
  | cons q qs ih =>
    intro ns m
    cases ns with
    | nil => exact Int.le_refl _
    | cons n ns =>
      rw [pl_best]
      have := ih ns (if rises p q then mx m n else m)
      have h2 : m ≤ (if rises p q then mx m n else m) := by split; unfold mx; split <;> omega; exact Int.le_refl _
      omega
theorem long_pos : ∀ l, ∀ n ∈ pl_long l, 1 ≤ n := by
  intro l
  induction l with
  | nil => intro n h; cases h
  | cons p ps ih =>
    intro n h
    rw [pl_long] at h
    cases h with
    | head => have := best_nn p ps (pl_long ps) 0; omega
    | tail _ h => exact ih n h
theorem best_le (B : Int) (p : S27) : ∀ qs ns m, m ≤ B → (∀ n ∈ ns, n ≤ B) → pl_best p qs ns m ≤ B := by
  intro qs
  induction qs with
  | nil => intro ns m h _; exact h
  | cons q qs ih =>
    intro ns m h hn
    cases ns with
    | nil => exact h
    | cons n ns =>
      rw [pl_best]
      refine ih ns _ ?_ (fun k hk => hn k (.tail _ hk))
      have := hn n (.head _)
      split
      · unfold mx; split <;> omega
      · exact h
theorem long_len : ∀ l, (pl_long l).length = l.length := by
  intro l
  induction l with
  | nil => rfl
  | cons p ps ih => rw [pl_long, List.length_cons, List.length_cons, ih]
theorem long_le : ∀ l, ∀ n ∈ pl_long l, n ≤ (l.length : Int) := by
  intro l
  induction l with
  | nil => intro n h; cases h
  | cons p ps ih =>
    intro n h
    rw [pl_long] at h
    rw [List.length_cons]
    cases h with
    | head => have := best_le ps.length p ps (pl_long ps) 0 (by omega) ih; omega
    | tail _ h => have := ih n h; omega
theorem rdP_nat (l : List S27) (i : Nat) : rd_T27 l (i : Int) = l.getD i z27 := by
  unfold rd_T27
  rw [Int.toNat_natCast]
theorem rdR_map (l : List S27) (i : Nat) : rd_T26 (l.map toR) (i : Int) = toR (l.getD i z27) := by
  unfold rd_T26
  rw [Int.toNat_natCast, List.getD_eq_getElem?_getD, List.getElem?_map, List.getD_eq_getElem?_getD]
  cases l[i]? <;> rfl
theorem dropP (l : List S27) (i : Nat) (h : i < l.length) : l.drop i = l.getD i z27 :: l.drop (i + 1) := by
  rw [List.drop_eq_getElem_cons h]; simp [List.getD_eq_getElem?_getD, h]
theorem getD_here (P : List Int) (m : Int) (N : List Int) (i : Nat) (h : P.length = i) : (P ++ m :: N).getD i 0 = m := by
  subst h; simp [List.getD_eq_getElem?_getD]
theorem getD_there (P : List Int) (m : Int) (N : List Int) (i j : Nat) (h : P.length = i) : (P ++ m :: N).getD (i + 1 + j) 0 = N.getD j 0 := by
  subst h
  simp only [List.getD_eq_getElem?_getD]
  rw [List.getElem?_append_right (by omega), show P.length + 1 + j - P.length = j + 1 from by omega, List.getElem?_cons_succ]
theorem set_here (P : List Int) (m v : Int) (N : List Int) (i : Nat) (h : P.length = i) : (P ++ m :: N).set i v = P ++ v :: N := by
  subst h; exact set_append_cons P m N v
theorem dropN (N : List Int) (i : Nat) (h : i < N.length) : N.drop i = N.getD i 0 :: N.drop (i + 1) := drop_cons N i h
theorem last_get (out : List S27) (h : out ≠ []) : out.getD (out.length - 1) z27 = out.getLastD z27 := by
  rw [List.getLastD_eq_getLast?, List.getLast?_eq_getElem?, List.getD_eq_getElem?_getD]
theorem one_less (n : Nat) (h : 1 ≤ n) (h2 : n < 1000000) : wrap64 ((n : Int) - 1) = ((n - 1 : Nat) : Int) := by rw [w64 _ (by omega)]; omega
/-! times, and Unique -/
theorem times_ev (x : List Int) (c : Int) (hx : x.length ≤ 1000000) : Ev (fun k => redlineref07_times.f k x c) (pu_cnt x c x.length) := by
  have H : ∀ d i : Nat, i + d = x.length → Ev (fun k => redlineref07_times.l0 k x c (pu_cnt x c i) (i : Int)) (pu_cnt x c x.length) := by
    intro d
    induction d with
    | zero =>
      intro i hi
      apply Ev_unfold
      obtain rfl : i = x.length := by omega
      simp only [redlineref07_times.l0, if_neg (show ¬ (x.length : Int) < (x.length : Int) by omega)]
      exact Ev.now _
    | succ d ih =>
      intro i hi
      apply Ev_unfold
      have hb := pu_cnt_bd x c i
      have o1 : i < 4611686018427387904 := by omega
      have o2 : -9223372036854775808 ≤ pu_cnt x c i + 1 ∧ pu_cnt x c i + 1 ≤ 9223372036854775807 := by omega
      have := ih (i + 1) (by omega)
      rw [pu_cnt] at this
      simp only [redlineref07_times.l0, if_pos (show (i : Int) < (x.length : Int) by omega), if_pos (show (0 : Int) ≤ (i : Int) by omega), rd_nat, wadd i o1, w64 _ o2]
      by_cases h : x.getD i 0 = c
      · simp only [if_pos h] at this ⊢; exact this
      · simp only [if_neg h, Int.add_zero] at this ⊢; exact this
  exact H x.length 0 (by omega)
theorem in_len (y : List Int) (c : Int) (i : Nat) : ∀ q j, (ru_in y c i q j).length ≤ q := by
  intro q
  induction q with
  | zero => intro j; simp [ru_in]
  | succ q ih => intro j; have := ih (j + 1); rw [ru_in, List.length_append]; split <;> simp <;> omega
theorem uniq_in (x y : List Int) (hx : x.length ≤ 1000000) (hy : y.length ≤ 1000000) (i : Nat) (hi : i < x.length) (R : List S26) : ∀ q j T, j + q = y.length → T.length + q < 8796093022208 →
    Ev (fun k => redlineref07_Unique.l0 k x y (T ++ ru_in y (x.getD i 0) i q j) ((i + 1 : Nat) : Int)) R → Ev (fun k => redlineref07_Unique.l1 k x y T (i : Int) (j : Int)) R := by
  have oi : i < 4611686018427387904 := by omega
  intro q
  induction q with
  | zero =>
    intro j T hj hT H
    apply Ev_unfold
    simp only [redlineref07_Unique.l1, if_neg (show ¬ (j : Int) < (y.length : Int) by omega), wadd i oi]
    simp only [ru_in, List.append_nil] at H
    exact H
  | succ q ih =>
    intro j T hj hT H
    apply Ev_unfold
    have oj : j < 4611686018427387904 := by omega
    have o2 : T.length < 8796093022208 := by omega
    simp only [redlineref07_Unique.l1, if_pos (show (j : Int) < (y.length : Int) by omega), if_pos (show (0 : Int) ≤ (j : Int) by omega), if_pos (show (0 : Int) ≤ (i : Int) by omega), if_pos (show (i : Int) < (x.length : Int) by omega), rd_nat, if_pos o2, wadd j oj]
    rw [ru_in, ← List.append_assoc] at H
    by_cases h : y.getD j 0 = x.getD i 0
    · simp only [if_pos h] at H ⊢
      exact ih (j + 1) _ (by omega) (by rw [List.length_append, List.length_singleton]; omega) H
    · simp only [if_neg h, List.append_nil] at H ⊢
      exact ih (j + 1) _ (by omega) (by omega) H
theorem uniq_ref (x y : List Int) (hx : x.length ≤ 300) (hy : y.length ≤ 300) : Ev (fun k => redlineref07_Unique.f k x y) (ru_rows x y x.length 0) := by
  have H : ∀ q i T, i + q = x.length → T.length + q * y.length < 8796093022208 → Ev (fun k => redlineref07_Unique.l0 k x y T (i : Int)) (T ++ ru_rows x y q i) := by
    intro q
    induction q with
    | zero =>
      intro i T hi hT
      apply Ev_unfold
      simp only [redlineref07_Unique.l0, if_neg (show ¬ (i : Int) < (x.length : Int) by omega), ru_rows, List.append_nil]
      exact Ev.now _
    | succ q ih =>
      intro i T hi hT
      apply Ev_unfold
      have oi : i < 4611686018427387904 := by omega
      simp only [redlineref07_Unique.l0, if_pos (show (i : Int) < (x.length : Int) by omega), if_pos (show (0 : Int) ≤ (i : Int) by omega), rd_nat]
      rw [ru_rows, ← List.append_assoc]
      have b1 : i + 1 + q = x.length := by omega
      rw [Nat.add_mul, Nat.one_mul] at hT
      have b2 : T.length + q * y.length < 8796093022208 := by omega
      have b3 : T.length + y.length < 8796093022208 := by omega
      refine Ev.bind (times_ev x _ (by omega)) ?_
      have hskip : (pu_cnt x (x.getD i 0) x.length ≠ 1 ∨ pu_cnt y (x.getD i 0) y.length ≠ 1) → Ev (fun k => redlineref07_Unique.j1 k x y T (i : Int) true) (T ++ (if pu_cnt x (x.getD i 0) x.length ≠ 1 ∨ pu_cnt y (x.getD i 0) y.length ≠ 1 then [] else ru_in y (x.getD i 0) i y.length 0) ++ ru_rows x y q (i + 1)) := by
        intro h
        rw [if_pos h, List.append_nil]
        apply Ev_unfold
        simp only [redlineref07_Unique.j1, if_true, wadd i oi]
        exact ih (i + 1) T b1 b2
      by_cases h1 : pu_cnt x (x.getD i 0) x.length = 1
      · simp only [if_pos h1]
        refine Ev.bind (times_ev y _ (by omega)) ?_
        by_cases h2 : pu_cnt y (x.getD i 0) y.length = 1
        · have hb : (pu_cnt y (x.getD i 0) y.length != 1) = false := bne_eq_false_iff_eq.mpr h2
          rw [hb, if_neg (show ¬ (pu_cnt x (x.getD i 0) x.length ≠ 1 ∨ pu_cnt y (x.getD i 0) y.length ≠ 1) by rintro (e | e); exact e h1; exact e h2)]
          apply Ev_unfold
          simp only [redlineref07_Unique.j1, Bool.false_eq_true, if_false]
          have hl := in_len y (x.getD i 0) i y.length 0
          refine uniq_in x y (by omega) (by omega) i (by omega) _ y.length 0 T (by omega) b3 ?_
          exact ih (i + 1) _ (by omega) (by rw [List.length_append]; omega)
        · have hb : (pu_cnt y (x.getD i 0) y.length != 1) = true := bne_iff_ne.mpr h2
          rw [hb]
          exact hskip (.inr h2)
      · simp only [if_neg h1]
        exact hskip (.inl h1)
  have hm : x.length * y.length ≤ 300 * 300 := Nat.mul_le_mul hx hy
  have := H x.length 0 [] (by omega) (by simp only [List.length_nil]; omega)
  rw [List.nil_append] at this
  exact this
theorem uniq_prog (x y : List Int) (hx : x.length ≤ 1000000) (hy : y.length ≤ 1000000) (wx : ∀ v ∈ x, (Lit.int .i64 v).wf = true) (wy : ∀ v ∈ y, (Lit.int .i64 v).wf = true) : patience_Unique.f x y = some (pu_rows x y x.length 0) := by
  unfold patience_Unique.f
  rw [if_pos ⟨hx, hy, wx, wy⟩]
end P7
end Go.Proofs.Ytonbplflmdpikaa.Q
