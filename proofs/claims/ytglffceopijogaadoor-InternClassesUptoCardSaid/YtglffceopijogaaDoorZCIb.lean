/- plain: the laws InternClasses and InternGrows -/
import Derived.Test.YtglffceopijogaaDoorZCIa
import Derived.Test.YtglffceopijogaaDoorZCXx75
import Derived.Test.YtglffceopijogaaDoorZCXx76
import Derived.Test.YtglffceopijogaaDoorZCXx77
namespace Go.Proofs.YtglffceopijogaaDoor.Q
set_option linter.unusedVariables false
set_option linter.unusedSimpArgs false
open Go.RowKit Go.Proofs.YtglffceopijogaaDoor.X Go.Proofs.YtglffceopijogaaDoorW.PrintWords Go.Proofs.YtglffceopijogaaDoorW.PrintLast Go.Proofs.YtglffceopijogaaDoorW.PrintMore
namespace C4
open C3 (cn)
theorem interns_all (x y : List ByteArray) (a0 a1 a2 a3 a4 a5 : Bool) (hx : ∀ s ∈ x, s.size ≤ 10000000) (hy : ∀ s ∈ y, s.size ≤ 10000000) : Ev (fun k => redlinelaw04_InternClasses.f k x y a0 a1 a2 a3 a4 a5) true := by
  have yes : Ev (fun k => redlinelaw04_InternClasses.j0 k x y true a0 a1 a2 a3 a4 a5) true := by
    apply Ev_unfold
    simp only [redlinelaw04_InternClasses.j0, if_true]
    exact Ev.now _
  unfold redlinelaw04_InternClasses.f
  by_cases h1 : (x.length : Int) > 300
  · simp only [if_pos h1]; exact yes
  simp only [if_neg h1]
  by_cases h2 : (y.length : Int) > 300
  · simp only [decide_eq_true h2]; exact yes
  simp only [decide_eq_false h2]
  apply Ev_unfold
  have lx : x.length ≤ 5000000 := by omega
  have ly : y.length ≤ 5000000 := by omega
  simp only [redlinelaw04_InternClasses.j0, Bool.false_eq_true, if_false, bsome, List.nil_append, List.length_nil, Nat.zero_add, if_pos (show x.length < 8796093022208 by omega), if_pos (show y.length < 8796093022208 by omega), classes_p a0 a1 a2 a3 a4 a5 x y hx hy lx ly]
  refine Ev.bind (classes_r a0 a1 a2 a3 a4 a5 x y hx hy lx ly) ?_
  have n1 := It.nm_len (x.map (cn a0 a1 a3 a4 a5)) []
  have n2 := It.nm_len (y.map (cn a0 a1 a3 a4 a5)) (It.nm [] (x.map (cn a0 a1 a3 a4 a5))).2
  rw [List.length_map] at n1 n2
  refine Ev.bind (ints_same (two a0 a1 a3 a4 a5 x y).1 (by show (It.nm [] (x.map (cn a0 a1 a3 a4 a5))).1.length < _; omega)) ?_
  simp only [if_true]
  refine Ev.bind (ints_same (two a0 a1 a3 a4 a5 x y).2.1 (by show (It.nm _ (y.map (cn a0 a1 a3 a4 a5))).1.length < _; omega)) ?_
  simp only [if_true]
  refine Ev.bind (strs_same x (by omega)) ?_
  simp only [if_true]
  refine Ev.bind (strs_same y (by omega)) ?_
  exact Ev.now _
end C4
end Go.Proofs.YtglffceopijogaaDoor.Q
