/- Plain facts on rows of classes: the longest common row L, what the least script keeps, and words on rounds. -/
import Derived.Test.YtchhelmilbheoaaDoorZMWA
namespace Go.Proofs.YtchhelmilbheoaaDoor.Q
set_option linter.unusedVariables false
set_option linter.unusedSimpArgs false
open Go.RowKit Go.Proofs.YtchhelmilbheoaaDoorW.PrintWords Go.Proofs.YtchhelmilbheoaaDoorW.PrintLast Go.Proofs.YtchhelmilbheoaaDoorW.PrintMore
/-! rounds -/
theorem Ev_unfold {α : Type} {g : Nat → Option α} {r : α} (h : Ev (fun k => g (k + 1)) r) : Ev g r := by
  obtain ⟨K, hK⟩ := h
  exact ⟨K + 1, fun k hk => by obtain ⟨j, rfl⟩ : ∃ j, k = j + 1 := ⟨k - 1, by omega⟩; exact hK j (by omega)⟩
/-- not by rfl: the kernel must not look into the calls -/
theorem bsome {α β : Type} (a : α) (f : α → Option β) : (some a).bind f = f a := by
  have h : ∀ o : Option α, o = some a → o.bind f = f a := by
    intro o h
    cases h
    rfl
  exact h _ rfl
theorem w64 (n : Int) (h : -9223372036854775808 ≤ n ∧ n ≤ 9223372036854775807) : wrap64 n = n := by unfold wrap64; omega
theorem wadd (i : Nat) (h : i < 4611686018427387904) : wrap64 ((i : Int) + 1) = ((i + 1 : Nat) : Int) := by
  rw [w64 _ (by omega)]
  omega
/-! lists -/
/-! the longest common row -/
def L : List Int → List Int → Nat
  | [], _ => 0
  | _ :: _, [] => 0
  | a :: x, b :: y => if a = b then L x y + 1 else max (L x (b :: y)) (L (a :: x) y)
termination_by x y => x.length + y.length
/-- what the least script keeps of x, y standing at place j -/
def kp : List Int → List Int → Int → List Int
  | [], _, _ => []
  | _ :: x, [], j => -1 :: kp x [] j
  | a :: x, b :: y, j => if a = b then j :: kp x y (j + 1) else if L (a :: x) y ≤ L x (b :: y) then -1 :: kp x (b :: y) j else kp (a :: x) y (j + 1)
termination_by x y => x.length + y.length
/-- how many members are the same at the front -/
def cp : List Int → List Int → Nat
  | a :: x, b :: y => if a = b then cp x y + 1 else 0
  | _, _ => 0
def upto (j : Int) : Nat → List Int
  | 0 => []
  | n + 1 => j :: upto (j + 1) n
/-! more on the longest common row -/
end Go.Proofs.YtchhelmilbheoaaDoor.Q
