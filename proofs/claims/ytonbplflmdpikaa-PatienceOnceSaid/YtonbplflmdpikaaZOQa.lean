/- Plain facts on rows of classes: the longest common row L, what the least script keeps, and words on rounds. -/
import Derived.Test.YtonbplflmdpikaaZOWA
namespace Go.Proofs.Ytonbplflmdpikaa.Q
set_option linter.unusedVariables false
set_option linter.unusedSimpArgs false
open Go.RowKit Go.Proofs.YtonbplflmdpikaaW.PrintWords Go.Proofs.YtonbplflmdpikaaW.PrintLast Go.Proofs.YtonbplflmdpikaaW.PrintMore
/-! rounds -/
theorem Ev_unfold {α : Type} {g : Nat → Option α} {r : α} (h : Ev (fun k => g (k + 1)) r) : Ev g r := by
  obtain ⟨K, hK⟩ := h
  exact ⟨K + 1, fun k hk => by obtain ⟨j, rfl⟩ : ∃ j, k = j + 1 := ⟨k - 1, by omega⟩; exact hK j (by omega)⟩
/-- not by rfl: the kernel must not look into the calls -/
theorem bsome {α β : Type} (a : α) (f : α → Option β) : (some a).bind f = f a := by
  have h : ∀ o : Option α, o = some a → o.bind f = f a := by
    intro o h
    cases h
    rfl
  exact h _ rfl
theorem rd_nat (xs : List Int) (m : Nat) : rd xs (m : Int) = xs.getD m 0 := by
  have h : ∀ j : Int, j = (m : Int) → rd xs j = xs.getD m 0 := by
    intro j h
    subst h
    rfl
  exact h _ rfl
theorem w64 (n : Int) (h : -9223372036854775808 ≤ n ∧ n ≤ 9223372036854775807) : wrap64 n = n := by unfold wrap64; omega
theorem wadd (i : Nat) (h : i < 4611686018427387904) : wrap64 ((i : Int) + 1) = ((i + 1 : Nat) : Int) := by
  rw [w64 _ (by omega)]
  omega
theorem wsub (a b : Nat) (h : b ≤ a) (h2 : a < 4611686018427387904) : wrap64 ((a : Int) - (b : Int)) = ((a - b : Nat) : Int) := by
  rw [w64 _ (by omega)]
  omega
/-! lists -/
theorem drop_cons (x : List Int) (i : Nat) (h : i < x.length) : x.drop i = x.getD i 0 :: x.drop (i + 1) := by
  rw [List.drop_eq_getElem_cons h]; simp [List.getD_eq_getElem?_getD, h]
theorem getD_set (T : List Int) (a b : Nat) (v : Int) (ha : a < T.length) : (T.set a v).getD b 0 = if a = b then v else T.getD b 0 := by
  simp only [List.getD_eq_getElem?_getD, List.getElem?_set]
  by_cases h : a = b
  · subst h; simp [ha]
  · simp [h]
theorem set_append_cons {α : Type} (a : List α) (b : α) (l : List α) (v : α) : (a ++ b :: l).set a.length v = a ++ v :: l := by
  rw [List.set_append_right _ _ (Nat.le_refl _)]; simp
theorem set_done (done : List Int) (i n : Nat) (v : Int) (h : done.length = i) : (done ++ List.replicate (n + 1) 0).set i v = (done ++ [v]) ++ List.replicate n 0 := by
  subst h; rw [List.replicate_succ, set_append_cons]; simp
/-! the longest common row -/
def L : List Int → List Int → Nat
  | [], _ => 0
  | _ :: _, [] => 0
  | a :: x, b :: y => if a = b then L x y + 1 else max (L x (b :: y)) (L (a :: x) y)
termination_by x y => x.length + y.length
theorem L_nil_r (x : List Int) : L x [] = 0 := by cases x <;> simp [L]
theorem L_nil_l (y : List Int) : L [] y = 0 := by simp [L]
theorem L_cons (a : Int) (x : List Int) (b : Int) (y : List Int) : L (a :: x) (b :: y) = if a = b then L x y + 1 else max (L x (b :: y)) (L (a :: x) y) := by rw [L]
theorem L_le_l : ∀ x y, L x y ≤ x.length
  | [], y => by simp [L]
  | a :: x, [] => by simp [L]
  | a :: x, b :: y => by
    have h1 := L_le_l x y
    have h2 := L_le_l x (b :: y)
    have h3 := L_le_l (a :: x) y
    rw [L_cons]
    simp only [List.length_cons] at *
    split <;> omega
termination_by x y => x.length + y.length
/-- what the least script keeps of x, y standing at place j -/
def kp : List Int → List Int → Int → List Int
  | [], _, _ => []
  | _ :: x, [], j => -1 :: kp x [] j
  | a :: x, b :: y, j => if a = b then j :: kp x y (j + 1) else if L (a :: x) y ≤ L x (b :: y) then -1 :: kp x (b :: y) j else kp (a :: x) y (j + 1)
termination_by x y => x.length + y.length
theorem kp_cons (a : Int) (x : List Int) (b : Int) (y : List Int) (j : Int) : kp (a :: x) (b :: y) j = if a = b then j :: kp x y (j + 1) else if L (a :: x) y ≤ L x (b :: y) then -1 :: kp x (b :: y) j else kp (a :: x) y (j + 1) := by rw [kp]
theorem kp_nil (y : List Int) (j : Int) : kp [] y j = [] := by rw [kp]
theorem kp_nil_r (x : List Int) (j : Int) : kp x [] j = List.replicate x.length (-1) := by
  induction x with
  | nil => rw [kp]; rfl
  | cons a x ih => rw [kp, ih]; rfl
theorem kp_len : ∀ x y j, (kp x y j).length = x.length
  | [], y, j => by simp [kp]
  | a :: x, [], j => by simp [kp, kp_len x [] j]
  | a :: x, b :: y, j => by
    have h1 := kp_len x y (j + 1)
    have h2 := kp_len x (b :: y) j
    have h3 := kp_len (a :: x) y (j + 1)
    rw [kp_cons]
    split
    · simp [h1]
    · split
      · simp [h2]
      · exact h3
termination_by x y => x.length + y.length
theorem kp_at (x y : List Int) (i j : Nat) (k : Int) (h1 : i < x.length) (h2 : j < y.length) : kp (x.drop i) (y.drop j) k = if x.getD i 0 = y.getD j 0 then k :: kp (x.drop (i + 1)) (y.drop (j + 1)) (k + 1) else if L (x.drop i) (y.drop (j + 1)) ≤ L (x.drop (i + 1)) (y.drop j) then -1 :: kp (x.drop (i + 1)) (y.drop j) k else kp (x.drop i) (y.drop (j + 1)) (k + 1) := by
  have e1 := drop_cons x i h1
  have e2 := drop_cons y j h2
  conv => lhs; rw [e1, e2, kp_cons, ← e1, ← e2]
/-- how many members are the same at the front -/
def cp : List Int → List Int → Nat
  | a :: x, b :: y => if a = b then cp x y + 1 else 0
  | _, _ => 0
theorem cp_le : ∀ x y, cp x y ≤ x.length ∧ cp x y ≤ y.length
  | [], _ => by simp [cp]
  | _ :: _, [] => by simp [cp]
  | a :: x, b :: y => by
    have := cp_le x y
    simp only [cp, List.length_cons]
    split <;> omega
def upto (j : Int) : Nat → List Int
  | 0 => []
  | n + 1 => j :: upto (j + 1) n
theorem upto_len : ∀ (n : Nat) (j : Int), (upto j n).length = n
  | 0, _ => rfl
  | n + 1, j => by simp [upto, upto_len n]
theorem upto_snoc : ∀ (n : Nat) (j : Int), upto j (n + 1) = upto j n ++ [j + n]
  | 0, j => by simp [upto]
  | n + 1, j => by
    have h : upto j (n + 1 + 1) = j :: upto (j + 1) (n + 1) := rfl
    rw [h, upto_snoc n (j + 1)]
    simp [upto]; omega
theorem kp_cp : ∀ x y j, kp x y j = upto j (cp x y) ++ kp (x.drop (cp x y)) (y.drop (cp x y)) (j + cp x y)
  | [], y, j => by simp [cp, upto]
  | _ :: _, [], j => by simp [cp, upto]
  | a :: x, b :: y, j => by
    have := kp_cp x y (j + 1)
    by_cases h : a = b
    · rw [kp_cons, if_pos h, this]; simp only [cp, if_pos h, List.drop_succ_cons, upto, List.cons_append]; congr 3; omega
    · simp [cp, if_neg h, upto]
theorem cp_stop : ∀ x y, cp x y < x.length → cp x y < y.length → x.getD (cp x y) 0 ≠ y.getD (cp x y) 0
  | [], _ => by simp [cp]
  | _ :: _, [] => by simp [cp]
  | a :: x, b :: y => by
    have := cp_stop x y
    by_cases h : a = b
    · simp only [cp, if_pos h, List.length_cons, List.getD_cons_succ]; intro h1 h2; exact this (by omega) (by omega)
    · simp only [cp, if_neg h, List.getD_cons_zero]; intro _ _; exact h
theorem cp_same : ∀ x y i, i < cp x y → x.getD i 0 = y.getD i 0
  | [], _, i => by simp [cp]
  | _ :: _, [], i => by simp [cp]
  | a :: x, b :: y, i => by
    by_cases h : a = b
    · simp only [cp, if_pos h]
      intro hi
      cases i with
      | zero => simpa using h
      | succ i => simpa using cp_same x y i (by omega)
    · simp [cp, if_neg h]
/-! more on the longest common row -/
end Go.Proofs.Ytonbplflmdpikaa.Q
