/- The longest common row by its meaning: as long as the longest list that lies in both; what follows for turns, steps and joins. -/
import Derived.Test.YtdcldoembdifpaaQa
namespace Go.Proofs.Ytdcldoembdifpaa.Q
set_option linter.unusedVariables false
set_option linter.unusedSimpArgs false
open Go.RowKit Go.Proofs.YtdcldoembdifpaaW.PrintWords Go.Proofs.YtdcldoembdifpaaW.PrintLast Go.Proofs.YtdcldoembdifpaaW.PrintMore

theorem L_sub : ∀ x y, ∃ z : List Int, z.Sublist x ∧ z.Sublist y ∧ z.length = L x y
  | [], y => ⟨[], List.nil_sublist _, List.nil_sublist _, by rw [L_nil_l]; rfl⟩
  | a :: x, [] => ⟨[], List.nil_sublist _, List.nil_sublist _, by rw [L_nil_r]; rfl⟩
  | a :: x, b :: y => by
    rw [L_cons]
    by_cases h : a = b
    · subst h
      obtain ⟨z, h1, h2, h3⟩ := L_sub x y
      exact ⟨a :: z, h1.cons_cons a, h2.cons_cons a, by rw [if_pos rfl, List.length_cons, h3]⟩
    · rw [if_neg h]
      by_cases hc : L x (b :: y) ≤ L (a :: x) y
      · obtain ⟨z, h1, h2, h3⟩ := L_sub (a :: x) y
        exact ⟨z, h1, h2.cons b, by rw [h3]; omega⟩
      · obtain ⟨z, h1, h2, h3⟩ := L_sub x (b :: y)
        exact ⟨z, h1.cons a, h2, by rw [h3]; omega⟩
termination_by x y => x.length + y.length
theorem sub_tail {z : List Int} {a : Int} {x : List Int} (h : z.Sublist (a :: x)) : z.tail.Sublist x := by
  cases h with
  | cons _ h => exact (List.tail_sublist z).trans h
  | cons_cons _ h => exact h
theorem L_max : ∀ x y (z : List Int), z.Sublist x → z.Sublist y → z.length ≤ L x y
  | [], y, z, h1, _ => by rw [List.sublist_nil.mp h1]; simp
  | a :: x, [], z, _, h2 => by rw [List.sublist_nil.mp h2]; simp
  | a :: x, b :: y, z, h1, h2 => by
    rw [L_cons]
    by_cases h : a = b
    · subst h
      rw [if_pos rfl]
      have := L_max x y z.tail (sub_tail h1) (sub_tail h2)
      rw [List.length_tail] at this
      omega
    · rw [if_neg h]
      cases h1 with
      | cons _ h1 =>
        have := L_max x (b :: y) z h1 h2
        omega
      | cons_cons _ h1' =>
        rename_i z'
        have h3 : (a :: z').Sublist y := by
          cases h2 with
          | cons _ h2 => exact h2
          | cons_cons _ h2 => exact absurd rfl h
        have := L_max (a :: x) y (a :: z') (h1'.cons_cons a) h3
        omega
termination_by x y => x.length + y.length
theorem L_comm (x y : List Int) : L x y = L y x := by
  obtain ⟨z, h1, h2, h3⟩ := L_sub x y
  obtain ⟨u, g1, g2, g3⟩ := L_sub y x
  have a := L_max y x z h2 h1
  have b := L_max x y u g2 g1
  omega
theorem L_rev (x y : List Int) : L x.reverse y.reverse = L x y := by
  obtain ⟨z, h1, h2, h3⟩ := L_sub x y
  obtain ⟨u, g1, g2, g3⟩ := L_sub x.reverse y.reverse
  have a := L_max x.reverse y.reverse z.reverse h1.reverse h2.reverse
  have b := L_max x y u.reverse (by simpa using g1.reverse) (by simpa using g2.reverse)
  rw [List.length_reverse] at a b
  omega
theorem L_self (x : List Int) : L x x = x.length := by
  have a := L_max x x x (List.Sublist.refl _) (List.Sublist.refl _)
  have b := L_le_l x x
  omega
theorem L_mono {x x' y y' : List Int} (h1 : x.Sublist x') (h2 : y.Sublist y') : L x y ≤ L x' y' := by
  obtain ⟨z, g1, g2, g3⟩ := L_sub x y
  have := L_max x' y' z (g1.trans h1) (g2.trans h2)
  omega
theorem L_full (x y : List Int) : L x y = x.length ↔ x.Sublist y := by
  constructor
  · intro h
    obtain ⟨z, g1, g2, g3⟩ := L_sub x y
    rw [← g1.eq_of_length (by omega)]
    exact g2
  · intro h
    have a := L_max x y x (List.Sublist.refl _) h
    have b := L_le_l x y
    omega
theorem L_insert (u v y : List Int) (c : Int) : L (u ++ v) y ≤ L (u ++ c :: v) y ∧ L (u ++ c :: v) y ≤ L (u ++ v) y + 1 := by
  refine ⟨L_mono ((List.Sublist.refl u).append (List.sublist_cons_self c v)) (List.Sublist.refl _), ?_⟩
  obtain ⟨z, g1, g2, g3⟩ := L_sub (u ++ c :: v) y
  obtain ⟨z1, z2, rfl, h1, h2⟩ := List.sublist_append_iff.mp g1
  have a := L_max (u ++ v) y (z1 ++ z2.tail) (h1.append (sub_tail h2)) (((List.Sublist.refl z1).append (List.tail_sublist z2)).trans g2)
  rw [List.length_append, List.length_tail] at a
  rw [List.length_append] at g3
  omega
theorem L_append (x y u v : List Int) : L x y + L u v ≤ L (x ++ u) (y ++ v) := by
  obtain ⟨z, g1, g2, g3⟩ := L_sub x y
  obtain ⟨z', g1', g2', g3'⟩ := L_sub u v
  have a := L_max (x ++ u) (y ++ v) (z ++ z') (g1.append g1') (g2.append g2')
  rw [List.length_append] at a
  omega
end Go.Proofs.Ytdcldoembdifpaa.Q
