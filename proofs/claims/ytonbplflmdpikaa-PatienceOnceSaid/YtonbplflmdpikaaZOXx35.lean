import Derived.Test.YtonbplflmdpikaaZOXx0
import Derived.Test.YtonbplflmdpikaaZOXx34
import Derived.Deep.RegionWith
namespace Go.Proofs.Ytonbplflmdpikaa.X
open Go.RowKit Go.Proofs.YtonbplflmdpikaaW.PrintWords Go.Proofs.YtonbplflmdpikaaW.PrintLast Go.Proofs.YtonbplflmdpikaaW.PrintMore
attribute [local go_sem] max2_int min2_int max_two min_two max_three min_three max_four min_four   -- for this text's walks alone
open Go.Proofs.YtonbplflmdpikaaW.HandWords
set_option linter.unusedVariables false
set_option linter.unusedSimpArgs false
def ls_lay (c : Int) : Nat → List Int → List Int → List Int
  | _, [], T => T
  | p, v :: vs, T => ls_lay c (p + 1) vs (if v ≥ 0 then T.set p (wrap64 (c + v)) else T)
def redlineref07_Least.f (k : Nat) (l0 l1 l2 : List Int) (a b c d : Int) : Option (List Int) :=
  if (0 ≤ a ∧ a ≤ b ∧ b ≤ (l1.length : Int) ∧ 0 ≤ c ∧ c ≤ d ∧ d ≤ (l2.length : Int)) ∧ b ≤ (l0.length : Int) ∧ b ≤ 1000000 then
    (redlineref06_Keeps.f k ((l1.take b.toNat).drop a.toNat) ((l2.take d.toNat).drop c.toNat)).bind fun t => if t.length ≤ b.toNat - a.toNat then some (ls_lay c a.toNat t l0) else none
  else none
end Go.Proofs.Ytonbplflmdpikaa.X
