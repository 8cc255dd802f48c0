/- plain: the law InternTables -/
import Derived.Test.YtglffceopijogaaDoorZBIa
import Derived.Test.YtglffceopijogaaDoorZBIw
namespace Go.Proofs.YtglffceopijogaaDoor.Q
set_option linter.unusedVariables false
set_option linter.unusedSimpArgs false
open Go.RowKit Go.Proofs.YtglffceopijogaaDoor.X Go.Proofs.YtglffceopijogaaDoorW.PrintWords Go.Proofs.YtglffceopijogaaDoorW.PrintLast Go.Proofs.YtglffceopijogaaDoorW.PrintMore
namespace C4
open C3
theorem tables_run (a0 a1 a2 a3 a4 a5 : Bool) (fl : Nat → Bool) : ∀ (r : List ByteArray) (i : Nat) (l : List ByteArray), (∀ s ∈ l, s.size ≤ 10000000) → (∀ s ∈ r, s.size ≤ 10000000) →
    ∃ K, ∀ k, K ≤ k → Lt.good k a0 a1 a2 a3 a4 a5 fl i l (l.map (cn a0 a1 a3 a4 a5)) r
  | [], i, l, _, _ => ⟨0, fun k _ => by unfold Lt.good; trivial⟩
  | s :: r, i, l, hl, hr => by
    have hs := hr s (List.mem_cons_self ..)
    have hr2 : ∀ t ∈ r, t.size ≤ 10000000 := fun t ht => hr t (List.mem_cons_of_mem _ ht)
    have hc := canon_p s a0 a1 a2 a3 a4 a5 hs
    have hz := cn_size a0 a1 a3 a4 a5 s
    have hz2 : (cn a0 a1 a3 a4 a5 s).size ≤ 1000000000 := by omega
    by_cases hf : fl i = true
    · obtain ⟨K1, h1⟩ := look_all a0 a1 a2 a3 a4 a5 s hs l 0 hl
      obtain ⟨K2, h2⟩ := tables_run a0 a1 a2 a3 a4 a5 fl r (i + 1) l hl hr2
      refine ⟨max K1 K2, fun k hk => ?_⟩
      have e1 := h1 k (by omega)
      have e2 := h2 k (by omega)
      unfold Lt.good
      refine ⟨_, hc, hz2, .inl ⟨hf, ?_, e2⟩⟩
      refine e1.trans ?_
      unfold It.ixi
      by_cases e : It.kin (l.map (cn a0 a1 a3 a4 a5)) (cn a0 a1 a3 a4 a5 s) = true
      · rw [if_pos e, if_pos e, e, Nat.zero_add]
      · rw [if_neg e, if_neg e, Bool.eq_false_iff.2 e]
    · have hf2 := Bool.eq_false_iff.2 hf
      obtain ⟨l2, g1, g2, K1, h1⟩ := cls_all a0 a1 a2 a3 a4 a5 l s hl hs
      obtain ⟨K2, h2⟩ := tables_run a0 a1 a2 a3 a4 a5 fl r (i + 1) l2 g2 hr2
      rw [g1] at h2
      refine ⟨max K1 K2, fun k hk => ?_⟩
      have e1 := h1 k (by omega)
      have e2 := h2 k (by omega)
      unfold Lt.good
      exact ⟨_, hc, hz2, .inr ⟨hf2, l2, e1, by rw [← g1, List.length_map], e2⟩⟩
theorem tables_all (a0 a1 a2 a3 a4 a5 : Bool) (fl : Nat → Bool) (r : List ByteArray) (hr : ∀ s ∈ r, s.size ≤ 10000000) : ∃ K, Lt.good K a0 a1 a2 a3 a4 a5 fl 0 [] [] r := by
  obtain ⟨K, h⟩ := tables_run a0 a1 a2 a3 a4 a5 fl r 0 [] (fun s h => by cases h) hr
  exact ⟨K, h K (Nat.le_refl K)⟩
end C4
end Go.Proofs.YtglffceopijogaaDoor.Q
