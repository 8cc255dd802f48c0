/- plain: the example by which statements of chapter 7 begin -/
import Derived.Test.YtonbplflmdpikaaZORf
import Derived.Test.YtonbplflmdpikaaZOXx42
namespace Go.Proofs.Ytonbplflmdpikaa.Q
set_option linter.unusedVariables false
set_option linter.unusedSimpArgs false
open Go.RowKit Go.Proofs.Ytonbplflmdpikaa.X Go.Proofs.YtonbplflmdpikaaW.PrintWords Go.Proofs.YtonbplflmdpikaaW.PrintLast Go.Proofs.YtonbplflmdpikaaW.PrintMore
namespace P7
theorem w7t1 : trow [1, 2, 1, 3] [3, 2, 4] = [⟨1, 1⟩] := by rfl
theorem w7t2 : trow [1] [3] = [] := by rfl
theorem w7t3 : trow [1, 3] [4] = [] := by rfl
theorem w7k2 : kp [1] [3] 0 = [-1] := by simp [kp_cons, L_cons, kp_nil, kp_nil_r, L_nil_l, L_nil_r]
theorem w7k3 : kp [1, 3] [4] 0 = [-1, -1] := by simp [kp_cons, L_cons, kp_nil, kp_nil_r, L_nil_l, L_nil_r]
theorem w7a : PK [1, 2, 1, 3] [3, 2, 4] = [-1, 1, -1, -1] := by
  simp [PK, pt, fr, pp_back, hp_lay, ptr, pp_cut, w7t1, w7t2, w7t3, pt_row, w7k2, w7k3, ls_lay, List.replicate]
theorem w7b : pu_rows [1, 2, 1, 3] [3, 2, 4] 4 0 = [⟨1, 1⟩, ⟨3, 0⟩] := by rfl
theorem wf4 (a b c d : Int) (h : (Lit.int .i64 a).wf = true ∧ (Lit.int .i64 b).wf = true ∧ (Lit.int .i64 c).wf = true ∧ (Lit.int .i64 d).wf = true) : ∀ v ∈ [a, b, c, d], (Lit.int .i64 v).wf = true := by
  intro v hv
  simp only [List.mem_cons, List.not_mem_nil, or_false] at hv
  rcases hv with e | e | e | e <;> subst e
  · exact h.1
  · exact h.2.1
  · exact h.2.2.1
  · exact h.2.2.2
theorem wf3 (a b c : Int) (h : (Lit.int .i64 a).wf = true ∧ (Lit.int .i64 b).wf = true ∧ (Lit.int .i64 c).wf = true) : ∀ v ∈ [a, b, c], (Lit.int .i64 v).wf = true := by
  intro v hv
  simp only [List.mem_cons, List.not_mem_nil, or_false] at hv
  rcases hv with e | e | e <;> subst e
  · exact h.1
  · exact h.2.1
  · exact h.2.2
theorem works07 : Ev (fun k => redlinelaw07_works.f k) true := by
  have d1 := diff7_prog [1, 2, 1, 3] [3, 2, 4] (by simp) (by simp) (wf4 _ _ _ _ (by decide)) (wf3 _ _ _ (by decide))
  rw [show pt [1, 2, 1, 3] [3, 2, 4] (([1, 2, 1, 3] : List Int).length + 1) 0 ([1, 2, 1, 3] : List Int).length 0 ([3, 2, 4] : List Int).length (List.replicate ([1, 2, 1, 3] : List Int).length (-1)) = PK [1, 2, 1, 3] [3, 2, 4] from rfl, w7a] at d1
  have e1 : make [-1, 1, -1, -1] ((([3, 2, 4] : List Int).length : Nat) : Int) = ([⟨0, 1, 0, 1⟩, ⟨2, 2, 2, 1⟩], 0) := by simp [make, okK, mk]
  rw [e1] at d1
  have u1 := uniq_prog [1, 2, 1, 3] [3, 2, 4] (by simp) (by simp) (wf4 _ _ _ _ (by decide)) (wf3 _ _ _ (by decide))
  rw [show pu_rows [1, 2, 1, 3] [3, 2, 4] ([1, 2, 1, 3] : List Int).length 0 = pu_rows [1, 2, 1, 3] [3, 2, 4] 4 0 from rfl, w7b] at u1
  unfold redlinelaw07_works.f
  refine Ev.bind d1 ?_
  rw [u1]
  simp only [bsome, if_true]
  refine Ev.bind (same_ch _ (by simp)) ?_
  simp only [if_true]
  exact Ev.now _
end P7
end Go.Proofs.Ytonbplflmdpikaa.Q
