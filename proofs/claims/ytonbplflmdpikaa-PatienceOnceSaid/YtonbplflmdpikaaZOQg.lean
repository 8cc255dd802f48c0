/- More on the least script: it is well made, it is empty just for the same texts; SameInts tells whether two rows are the same. -/
import Derived.Test.YtonbplflmdpikaaZOQb
import Derived.Test.YtonbplflmdpikaaZOQa
namespace Go.Proofs.Ytonbplflmdpikaa.Q
set_option linter.unusedVariables false
set_option linter.unusedSimpArgs false
open Go.RowKit Go.Proofs.Ytonbplflmdpikaa.X Go.Proofs.YtonbplflmdpikaaW.PrintWords Go.Proofs.YtonbplflmdpikaaW.PrintLast Go.Proofs.YtonbplflmdpikaaW.PrintMore
theorem okK_neg (m : Int) (n : Nat) : ∀ last, okK m (List.replicate n (-1)) last = true := by
  induction n with
  | zero => intro last; rfl
  | succ n ih => intro last; rw [List.replicate_succ, okK, if_pos rfl]; exact ih last
theorem kp_ok (m : Int) : ∀ x y (j last : Int), last < j → 0 ≤ j → j + y.length ≤ m → okK m (kp x y j) last = true
  | [], y, j, last, h1, h2, h3 => by rw [kp_nil]; rfl
  | a :: x, [], j, last, h1, h2, h3 => by rw [kp_nil_r]; exact okK_neg m _ last
  | a :: x, b :: y, j, last, h1, h2, h3 => by
    simp only [List.length_cons] at h3
    rw [kp_cons]
    by_cases h : a = b
    · rw [if_pos h, okK, if_neg (by omega), if_neg (by omega), if_neg (by omega)]
      exact kp_ok m x y (j + 1) j (by omega) (by omega) (by omega)
    · rw [if_neg h]
      by_cases hg : L (a :: x) y ≤ L x (b :: y)
      · rw [if_pos hg, okK, if_pos rfl]
        exact kp_ok m x (b :: y) j last h1 h2 (by simp only [List.length_cons]; omega)
      · rw [if_neg hg]
        exact kp_ok m (a :: x) y (j + 1) last (by omega) (by omega) (by omega)
termination_by x y => x.length + y.length
theorem make_kp (x y : List Int) : make (kp x y 0) y.length = (mk y.length (kp x y 0) 0 0 0, 0) := by
  unfold make
  rw [if_neg (by omega), if_pos (kp_ok _ x y 0 (-1) (by omega) (by omega) (by omega))]
/-! SameInts -/
end Go.Proofs.Ytonbplflmdpikaa.Q
