/- Honest: how many pairs a script keeps, and whether they are the same. -/
import Derived.Test.YtonbplflmdpikaaZHQh
import Derived.Test.YtonbplflmdpikaaZHXx47
namespace Go.Proofs.Ytonbplflmdpikaa.Q
set_option linter.unusedVariables false
set_option linter.unusedSimpArgs false
open Go.RowKit Go.Proofs.Ytonbplflmdpikaa.X Go.Proofs.YtonbplflmdpikaaW.PrintWords Go.Proofs.YtonbplflmdpikaaW.PrintLast Go.Proofs.YtonbplflmdpikaaW.PrintMore
def nn (keep : List Int) : Nat := (keep.filter fun k => decide (0 ≤ k)).length
theorem nn_cons_pos {k : Int} {ks : List Int} (h : 0 ≤ k) : nn (k :: ks) = nn ks + 1 := by simp [nn, h]
theorem nn_cons_neg {k : Int} {ks : List Int} (h : ¬ 0 ≤ k) : nn (k :: ks) = nn ks := by simp [nn, h]
/-- all that is kept is the same in both -/
def Hon (x y keep : List Int) : Prop := ∀ i, i < keep.length → 0 ≤ keep.getD i 0 → keep.getD i 0 < (y.length : Int) ∧ x.getD i 0 = y.getD (keep.getD i 0).toNat 0
theorem honest_l (x y keep : List Int) (hlen : keep.length = x.length) (hl : keep.length ≤ 1000000000) (H : Hon x y keep) : ∀ (d i c : Nat), keep.length - i = d → i ≤ keep.length → c ≤ i → Ev (fun k => redlinelaw06_Honest.l0 k x y keep (c : Int) (i : Int)) (((c + nn (keep.drop i) : Nat) : Int), true) := by
  intro d
  induction d with
  | zero =>
    intro i c hd hi hc
    have q : ¬ (i : Int) < (keep.length : Int) := by omega
    apply Ev_unfold
    simp only [redlinelaw06_Honest.l0, if_neg q]
    rw [List.drop_eq_nil_of_le (by omega)]
    exact Ev.now _
  | succ d ih =>
    intro i c hd hi hc
    have q1 : (i : Int) < (keep.length : Int) := by omega
    have q2 : (0 : Int) ≤ (i : Int) := by omega
    have q3 : (i : Int) < (x.length : Int) := by omega
    have hd2 := drop_cons keep i (by omega)
    apply Ev_unfold
    simp only [redlinelaw06_Honest.l0, if_pos q1, if_pos q2, if_pos q3, rd_nat, wadd i (by omega), wadd c (by omega)]
    by_cases hk : keep.getD i 0 ≥ 0
    · obtain ⟨h1, h2⟩ := H i (by omega) hk
      obtain ⟨n, hn⟩ : ∃ n : Nat, keep.getD i 0 = (n : Int) := ⟨(keep.getD i 0).toNat, by omega⟩
      rw [hd2, nn_cons_pos hk, show c + (nn (keep.drop (i + 1)) + 1) = (c + 1) + nn (keep.drop (i + 1)) by omega]
      rw [hn] at h1 h2 hk
      rw [Int.toNat_natCast] at h2
      have q4 : ¬ (n : Int) ≥ (y.length : Int) := by omega
      have q5 : (0 : Int) ≤ (n : Int) := by omega
      have q6 : (n : Int) ≥ 0 := by omega
      simp only [hn, rd_nat, if_neg q4, if_pos q5, if_pos h1, if_pos h2, if_pos q6]
      exact ih (i + 1) (c + 1) (by omega) (by omega) (by omega)
    · rw [hd2, nn_cons_neg (by omega)]
      simp only [if_neg hk]
      exact ih (i + 1) c (by omega) (by omega) (by omega)
theorem honest_of (x y keep : List Int) (l : List Ch) (hlen : keep.length = x.length) (hl : keep.length ≤ 1000000000) (H : Hon x y keep) (hk : Ev (fun k => edits_Keep.f k l (x.length : Int) (y.length : Int)) (keep, 0)) : Ev (fun k => redlinelaw06_Honest.f k l x y) ((nn keep : Int), true) := by
  unfold redlinelaw06_Honest.f
  refine Ev.bind hk ?_
  have e : ((keep.length : Int) != (x.length : Int)) = false := by rw [hlen]; simp
  simp only [if_true, e]
  apply Ev_unfold
  simp only [redlinelaw06_Honest.j0, Bool.false_eq_true, if_false]
  have := honest_l x y keep hlen hl H _ 0 0 rfl (by omega) (by omega)
  rw [Nat.zero_add, List.drop_zero] at this
  exact this
end Go.Proofs.Ytonbplflmdpikaa.Q
