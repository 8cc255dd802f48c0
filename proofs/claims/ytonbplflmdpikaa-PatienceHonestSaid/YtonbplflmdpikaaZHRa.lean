/- plain: which lines are there once, and the longest rising row of pairs: the program's answer and the reference's -/
import Derived.Test.YtonbplflmdpikaaZHQa
import Derived.Test.YtonbplflmdpikaaZHXx10
import Derived.Test.YtonbplflmdpikaaZHXx4
import Derived.Test.YtonbplflmdpikaaZHXx5
import Derived.Test.YtonbplflmdpikaaZHXx6
import Derived.Test.YtonbplflmdpikaaZHXx8
namespace Go.Proofs.Ytonbplflmdpikaa.Q
set_option linter.unusedVariables false
set_option linter.unusedSimpArgs false
open Go.RowKit Go.Proofs.Ytonbplflmdpikaa.X Go.Proofs.YtonbplflmdpikaaW.PrintWords Go.Proofs.YtonbplflmdpikaaW.PrintLast Go.Proofs.YtonbplflmdpikaaW.PrintMore
namespace P7
-- model of the reference
def ru_in (y : List Int) (c : Int) (i : Nat) : Nat → Nat → List S26
  | 0, _ => []
  | q + 1, j => (if y.getD j 0 = c then [⟨(i : Int), (j : Int)⟩] else []) ++ ru_in y c i q (j + 1)
def ru_rows (x y : List Int) : Nat → Nat → List S26
  | 0, _ => []
  | q + 1, i => (if pu_cnt x (x.getD i 0) x.length ≠ 1 ∨ pu_cnt y (x.getD i 0) y.length ≠ 1 then [] else ru_in y (x.getD i 0) i y.length 0) ++ ru_rows x y q (i + 1)
def toR (p : S27) : S26 := ⟨p.f0, p.f1⟩
def ru_pre (y : List Int) (c : Int) (i : Nat) : Nat → List S26
  | 0 => []
  | n + 1 => ru_pre y c i n ++ (if y.getD n 0 = c then [⟨(i : Int), (n : Int)⟩] else [])
-- Longest
def rises (a b : S27) : Prop := a.f0 < b.f0 ∧ a.f1 < b.f1
instance (a b : S27) : Decidable (rises a b) := by unfold rises; exact inferInstance
def pl_best (p : S27) : List S27 → List Int → Int → Int
  | q :: qs, n :: ns, m => pl_best p qs ns (if rises p q then mx m n else m)
  | _, _, m => m
def pl_long : List S27 → List Int
  | [] => []
  | p :: ps => (pl_best p ps (pl_long ps) 0 + 1) :: pl_long ps
def pl_sel : List S27 → List Int → Int → List S27 → List S27
  | p :: ps, n :: ns, want, out => if n = want ∧ (out = [] ∨ rises (out.getLastD z27) p) then pl_sel ps ns (want - 1) (out ++ [p]) else pl_sel ps ns want out
  | _, _, _, out => out
def pl_max : List Int → Int
  | [] => 0
  | n :: ns => ns.foldl mx n
-- the reference's
def rl_best (p : S27) : List S27 → List Int → Int → Int
  | q :: qs, n :: ns, m => rl_best p qs ns (if rises p q then mx m (n + 1) else m)
  | _, _, m => m
def rl_long : List S27 → List Int
  | [] => []
  | p :: ps => rl_best p ps (rl_long ps) 1 :: rl_long ps
def rl_most : List Int → Int
  | [] => 0
  | n :: ns => mx (rl_most ns) n
theorem best_nn (p : S27) : ∀ qs ns m, m ≤ pl_best p qs ns m := by
  intro qs
  induction qs with
  | nil => intro ns m; exact Int.le_refl _
  | cons q qs ih =>
    intro ns m
    cases ns with
    | nil => exact Int.le_refl _
    | cons n ns =>
      rw [pl_best]
      have := ih ns (if rises p q then mx m n else m)
      have h2 : m ≤ (if rises p q then mx m n else m) := by split; unfold mx; split <;> omega; exact Int.le_refl _
      omega
theorem long_pos : ∀ l, ∀ n ∈ pl_long l, 1 ≤ n := by
  intro l
  induction l with
  | nil => intro n h; cases h
  | cons p ps ih =>
    intro n h
    rw [pl_long] at h
    cases h with
    | head => have := best_nn p ps (pl_long ps) 0; omega
    | tail _ h => exact ih n h
theorem best_le (B : Int) (p : S27) : ∀ qs ns m, m ≤ B → (∀ n ∈ ns, n ≤ B) → pl_best p qs ns m ≤ B := by
  intro qs
  induction qs with
  | nil => intro ns m h _; exact h
  | cons q qs ih =>
    intro ns m h hn
    cases ns with
    | nil => exact h
    | cons n ns =>
      rw [pl_best]
      refine ih ns _ ?_ (fun k hk => hn k (.tail _ hk))
      have := hn n (.head _)
      split
      · unfold mx; split <;> omega
      · exact h
theorem long_len : ∀ l, (pl_long l).length = l.length := by
  intro l
  induction l with
  | nil => rfl
  | cons p ps ih => rw [pl_long, List.length_cons, List.length_cons, ih]
theorem long_le : ∀ l, ∀ n ∈ pl_long l, n ≤ (l.length : Int) := by
  intro l
  induction l with
  | nil => intro n h; cases h
  | cons p ps ih =>
    intro n h
    rw [pl_long] at h
    rw [List.length_cons]
    cases h with
    | head => have := best_le ps.length p ps (pl_long ps) 0 (by omega) ih; omega
    | tail _ h => have := ih n h; omega
theorem rdP_nat (l : List S27) (i : Nat) : rd_T27 l (i : Int) = l.getD i z27 := by
  unfold rd_T27
  rw [Int.toNat_natCast]
theorem dropP (l : List S27) (i : Nat) (h : i < l.length) : l.drop i = l.getD i z27 :: l.drop (i + 1) := by
  rw [List.drop_eq_getElem_cons h]; simp [List.getD_eq_getElem?_getD, h]
theorem getD_here (P : List Int) (m : Int) (N : List Int) (i : Nat) (h : P.length = i) : (P ++ m :: N).getD i 0 = m := by
  subst h; simp [List.getD_eq_getElem?_getD]
theorem getD_there (P : List Int) (m : Int) (N : List Int) (i j : Nat) (h : P.length = i) : (P ++ m :: N).getD (i + 1 + j) 0 = N.getD j 0 := by
  subst h
  simp only [List.getD_eq_getElem?_getD]
  rw [List.getElem?_append_right (by omega), show P.length + 1 + j - P.length = j + 1 from by omega, List.getElem?_cons_succ]
theorem set_here (P : List Int) (m v : Int) (N : List Int) (i : Nat) (h : P.length = i) : (P ++ m :: N).set i v = P ++ v :: N := by
  subst h; exact set_append_cons P m N v
theorem dropN (N : List Int) (i : Nat) (h : i < N.length) : N.drop i = N.getD i 0 :: N.drop (i + 1) := drop_cons N i h
theorem last_get (out : List S27) (h : out ≠ []) : out.getD (out.length - 1) z27 = out.getLastD z27 := by
  rw [List.getLastD_eq_getLast?, List.getLast?_eq_getElem?, List.getD_eq_getElem?_getD]
theorem one_less (n : Nat) (h : 1 ≤ n) (h2 : n < 1000000) : wrap64 ((n : Int) - 1) = ((n - 1 : Nat) : Int) := by rw [w64 _ (by omega)]; omega
/-! times, and Unique -/
theorem uniq_prog (x y : List Int) (hx : x.length ≤ 1000000) (hy : y.length ≤ 1000000) (wx : ∀ v ∈ x, (Lit.int .i64 v).wf = true) (wy : ∀ v ∈ y, (Lit.int .i64 v).wf = true) : patience_Unique.f x y = some (pu_rows x y x.length 0) := by
  unfold patience_Unique.f
  rw [if_pos ⟨hx, hy, wx, wy⟩]
end P7
end Go.Proofs.Ytonbplflmdpikaa.Q
