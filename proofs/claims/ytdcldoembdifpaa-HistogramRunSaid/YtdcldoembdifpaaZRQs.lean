/- plain: the example by which the statements of chapter 8 begin -/
import Derived.Test.YtdcldoembdifpaaZRQp
import Derived.Test.YtdcldoembdifpaaZRXx57
namespace Go.Proofs.Ytdcldoembdifpaa.Q
set_option linter.unusedVariables false
set_option linter.unusedSimpArgs false
open Go.RowKit Go.Proofs.Ytdcldoembdifpaa.X Go.Proofs.Ytdcldoembdifpaa.Q.HB Go.Proofs.YtdcldoembdifpaaW.PrintWords Go.Proofs.YtdcldoembdifpaaW.PrintLast Go.Proofs.YtdcldoembdifpaaW.PrintMore
theorem w8a : PK [1, 2, 1, 3] [1, 3, 1, 2] = [0, 3, -1, -1] := by decide
theorem w8b : bst [1, 2, 1, 3] [1, 3, 1, 2] = (0, 2, 2, 1, true) := by decide
theorem wf4 (a b c d : Int) (h : (Lit.int .i64 a).wf = true ∧ (Lit.int .i64 b).wf = true ∧ (Lit.int .i64 c).wf = true ∧ (Lit.int .i64 d).wf = true) : ∀ v ∈ [a, b, c, d], (Lit.int .i64 v).wf = true := by
  intro v hv
  simp only [List.mem_cons, List.not_mem_nil, or_false] at hv
  rcases hv with e | e | e | e <;> subst e
  · exact h.1
  · exact h.2.1
  · exact h.2.2.1
  · exact h.2.2.2
theorem works08 : Ev (fun k => redlinelaw08_works.f k) true := by
  have d1 := diff8_prog [1, 2, 1, 3] [1, 3, 1, 2] (by simp) (by simp) (wf4 _ _ _ _ (by decide)) (wf4 _ _ _ _ (by decide))
  have b1 := bst_prog [1, 2, 1, 3] [1, 3, 1, 2] (by simp) (by simp) (wf4 _ _ _ _ (by decide)) (wf4 _ _ _ _ (by decide))
  rw [show pc [1, 2, 1, 3] [1, 3, 1, 2] (([1, 2, 1, 3] : List Int).length + 1) 0 ([1, 2, 1, 3] : List Int).length 0 ([1, 3, 1, 2] : List Int).length (List.replicate ([1, 2, 1, 3] : List Int).length (-1)) = PK [1, 2, 1, 3] [1, 3, 1, 2] from rfl, w8a] at d1
  have e1 : make [0, 3, -1, -1] ((([1, 3, 1, 2] : List Int).length : Nat) : Int) = ([⟨1, 0, 1, 2⟩, ⟨2, 2, 4, 0⟩], 0) := by simp [make, okK, mk]
  rw [e1] at d1
  rw [w8b] at b1
  unfold redlinelaw08_works.f
  refine Ev.bind d1 ?_
  rw [b1]
  simp only [bsome, if_true]
  refine Ev.bind (same_ch _ (by simp)) ?_
  simp only [if_true]
  apply Ev_unfold
  simp only [redlinelaw08_works.j0]
  exact Ev.now _
end Go.Proofs.Ytdcldoembdifpaa.Q
