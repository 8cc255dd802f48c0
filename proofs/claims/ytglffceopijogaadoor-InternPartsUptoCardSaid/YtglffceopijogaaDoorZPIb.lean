/- plain: the laws InternClasses and InternGrows -/
import Derived.Test.YtglffceopijogaaDoorZPIa
import Derived.Test.YtglffceopijogaaDoorZPXx75
import Derived.Test.YtglffceopijogaaDoorZPXx76
import Derived.Test.YtglffceopijogaaDoorZPXx77
namespace Go.Proofs.YtglffceopijogaaDoor.Q
set_option linter.unusedVariables false
set_option linter.unusedSimpArgs false
open Go.RowKit Go.Proofs.YtglffceopijogaaDoor.X Go.Proofs.YtglffceopijogaaDoorW.PrintWords Go.Proofs.YtglffceopijogaaDoorW.PrintLast Go.Proofs.YtglffceopijogaaDoorW.PrintMore
namespace C4
open C3 (cn)
theorem works_true : Ev (fun k => redlinelaw04_works.f k) true := by
  unfold redlinelaw04_works.f
  have hc : intern_Classes.f ([(⟨#[65, 10]⟩ : ByteArray), (⟨#[98, 10]⟩ : ByteArray), (⟨#[97, 10]⟩ : ByteArray)] : List ByteArray) ([(⟨#[98, 10]⟩ : ByteArray), (⟨#[99, 10]⟩ : ByteArray)] : List ByteArray) false false false true false false = some ([0, 1, 0], [1, 2], 3) := by
    rw [classes_p false false false true false false _ _ (by decide) (by decide) (by decide) (by decide)]
    have e1 : two false false true false false ([(⟨#[65, 10]⟩ : ByteArray), (⟨#[98, 10]⟩ : ByteArray), (⟨#[97, 10]⟩ : ByteArray)] : List ByteArray) ([(⟨#[98, 10]⟩ : ByteArray), (⟨#[99, 10]⟩ : ByteArray)] : List ByteArray) = ([0, 1, 0], [1, 2], 3) := by decide +kernel
    rw [e1]
  simp only [hc, bsome]
  refine Ev.bind (ints_same _ (by decide)) ?_
  simp only [if_true]
  refine Ev.bind (ints_same _ (by decide)) ?_
  simp only [if_true]
  exact Ev.now _
theorem nm_app : ∀ (A B ks : List ByteArray), It.nm ks (A ++ B) = ((It.nm ks A).1 ++ (It.nm (It.nm ks A).2 B).1, (It.nm (It.nm ks A).2 B).2)
  | [], B, ks => rfl
  | k :: A, B, ks => by
    rw [List.cons_append, It.nm, nm_app A B (It.ad ks k)]
    rfl
theorem ad_mem (ks : List ByteArray) (k : ByteArray) : k ∈ It.ad ks k := by
  unfold It.ad
  by_cases h : It.kin ks k = true
  · rw [if_pos h]; exact (It.hk_iff _ _).1 h
  · rw [if_neg h]; simp
theorem ad_ext (ks : List ByteArray) (k : ByteArray) : ∃ t, It.ad ks k = ks ++ t := by
  unfold It.ad
  by_cases h : It.kin ks k = true
  · rw [if_pos h]; exact ⟨[], by simp⟩
  · rw [if_neg h]; exact ⟨[k], rfl⟩
theorem nm_ext : ∀ (A ks : List ByteArray), ∃ t, (It.nm ks A).2 = ks ++ t
  | [], ks => ⟨[], by simp [It.nm]⟩
  | k :: A, ks => by
    obtain ⟨t, ht⟩ := ad_ext ks k
    obtain ⟨u, hu⟩ := nm_ext A (It.ad ks k)
    exact ⟨t ++ u, by rw [It.nm, hu, ht, List.append_assoc]⟩
/-- each number is the place among the keys at the end -/
theorem nm_ix : ∀ (A ks : List ByteArray), (It.nm ks A).1 = A.map (fun k => (It.ix (It.nm ks A).2 k : Int)) ∧ ∀ k ∈ A, k ∈ (It.nm ks A).2
  | [], ks => ⟨rfl, fun k h => by cases h⟩
  | k :: A, ks => by
    obtain ⟨h1, h2⟩ := nm_ix A (It.ad ks k)
    obtain ⟨t, ht⟩ := nm_ext A (It.ad ks k)
    have hm := ad_mem ks k
    refine ⟨?_, ?_⟩
    · rw [It.nm, List.map_cons]
      show _ :: _ = _ :: _
      congr 1
      show (It.ix (It.ad ks k) k : Int) = (It.ix (It.nm (It.ad ks k) A).2 k : Int)
      rw [ht, It.ix_app _ _ _ hm]
    · intro j hj
      rw [It.nm]
      rcases List.mem_cons.1 hj with e | h
      · subst e
        show j ∈ (It.nm (It.ad ks j) A).2
        rw [ht]
        exact List.mem_append_left _ hm
      · exact h2 j h
theorem ad_known (ks : List ByteArray) (k : ByteArray) (h : k ∈ ks) : It.ad ks k = ks := by
  unfold It.ad
  rw [if_pos ((It.hk_iff _ _).2 h)]
end C4
end Go.Proofs.YtglffceopijogaaDoor.Q
