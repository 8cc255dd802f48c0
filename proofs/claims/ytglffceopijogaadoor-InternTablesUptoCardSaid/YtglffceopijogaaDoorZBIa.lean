/- plain: the classes of two texts' lines -/
import Derived.Test.YtglffceopijogaaDoorZBCd
import Derived.Test.YtglffceopijogaaDoorZBXx59
import Derived.Test.YtglffceopijogaaDoorZBXx69
import Derived.Test.YtglffceopijogaaDoorZBXx72
import Derived.Test.YtglffceopijogaaDoorZBXx73
import Derived.Test.YtglffceopijogaaDoorZBXx74
namespace Go.Proofs.YtglffceopijogaaDoor.Q
set_option linter.unusedVariables false
set_option linter.unusedSimpArgs false
open Go.RowKit Go.Proofs.YtglffceopijogaaDoor.X Go.Proofs.YtglffceopijogaaDoorW.PrintWords Go.Proofs.YtglffceopijogaaDoorW.PrintLast Go.Proofs.YtglffceopijogaaDoorW.PrintMore
namespace C4
open C3
theorem cn_size (a0 a1 a3 a4 a5 : Bool) (s : ByteArray) : (cn a0 a1 a3 a4 a5 s).size ≤ 8 * s.size + 1 := by
  have hz := bare_size s
  have hl := txl_len a0 a1 a3 a4 a5 (bare s).1.data.toList
  rw [← Lib.size_eq] at hl
  unfold cn
  split
  · rw [ByteArray.size_append, tt_size]
    have : (⟨#[10]⟩ : ByteArray).size = 1 := rfl
    omega
  · rw [tt_size]; omega
theorem bytes_eq (x y : ByteArray) : (x.toList == y.toList) = decide (x = y) := by
  by_cases h : x = y
  · rw [h, decide_eq_true rfl, beq_self_eq_true]
  · rw [decide_eq_false h, beq_eq_false_iff_ne.mpr (fun e => h (by rw [Lib.toList_data, Lib.toList_data] at e; exact tt_inj e))]
section
variable (a0 a1 a2 a3 a4 a5 : Bool)
theorem equal_r (a b : ByteArray) (ha : a.size ≤ 10000000) (hb : b.size ≤ 10000000) : Ev (fun k => redlineref03_Equal.f k a b a0 a1 a2 a3 a4 a5) (decide ((cn a0 a1 a3 a4 a5) a = (cn a0 a1 a3 a4 a5) b)) := by
  rw [← bytes_eq]
  unfold redlineref03_Equal.f
  refine Ev.bind (canon_r a a0 a1 a2 a3 a4 a5 ha) ?_
  refine Ev.bind (canon_r b a0 a1 a2 a3 a4 a5 hb) ?_
  exact Ev.now _
theorem look_all (line : ByteArray) (hl : line.size ≤ 10000000) : ∀ (l : List ByteArray) (i : Nat), (∀ s ∈ l, s.size ≤ 10000000) →
    Ev (fun k => Rt.lookr k a0 a1 a2 a3 a4 a5 line l i) (if It.kin (l.map (cn a0 a1 a3 a4 a5)) ((cn a0 a1 a3 a4 a5) line) = true then (((i + It.ix (l.map (cn a0 a1 a3 a4 a5)) ((cn a0 a1 a3 a4 a5) line) : Nat) : Int), true) else ((0 : Int), false))
  | [], i, _ => Ev.now _
  | s :: l, i, h => by
    have hs := h s (List.mem_cons_self ..)
    have ih := look_all line hl l (i + 1) (fun t ht => h t (List.mem_cons_of_mem _ ht))
    simp only [Rt.lookr, List.map_cons, It.kin, It.ix]
    refine Ev.bind (equal_r a0 a1 a2 a3 a4 a5 s line hs hl) ?_
    by_cases e : (cn a0 a1 a3 a4 a5) s = (cn a0 a1 a3 a4 a5) line
    · simp only [decide_eq_true e, if_true, Bool.true_or, if_pos e, Nat.add_zero]
      exact Ev.now _
    · simp only [decide_eq_false e, Bool.false_eq_true, if_false, Bool.false_or, if_neg e]
      rw [show i + (It.ix (l.map (cn a0 a1 a3 a4 a5)) ((cn a0 a1 a3 a4 a5) line) + 1) = i + 1 + It.ix (l.map (cn a0 a1 a3 a4 a5)) ((cn a0 a1 a3 a4 a5) line) by omega]
      exact ih
theorem cls_all (l : List ByteArray) (line : ByteArray) (hl : ∀ s ∈ l, s.size ≤ 10000000) (hs : line.size ≤ 10000000) :
    ∃ l2, l2.map (cn a0 a1 a3 a4 a5) = It.ad (l.map (cn a0 a1 a3 a4 a5)) ((cn a0 a1 a3 a4 a5) line) ∧ (∀ s ∈ l2, s.size ≤ 10000000) ∧ Ev (fun k => Rt.cls k a0 a1 a2 a3 a4 a5 l line) ((It.ix (It.ad (l.map (cn a0 a1 a3 a4 a5)) ((cn a0 a1 a3 a4 a5) line)) ((cn a0 a1 a3 a4 a5) line) : Int), l2) := by
  have h := look_all a0 a1 a2 a3 a4 a5 line hs l 0 hl
  unfold Rt.cls It.ad
  by_cases e : It.kin (l.map (cn a0 a1 a3 a4 a5)) ((cn a0 a1 a3 a4 a5) line) = true
  · rw [if_pos e] at h ⊢
    refine ⟨l, rfl, hl, ?_⟩
    refine Ev.bind h ?_
    simp only [if_true, Nat.zero_add]
    exact Ev.now _
  · rw [if_neg e] at h ⊢
    refine ⟨l ++ [line], by rw [List.map_append]; rfl, ?_, ?_⟩
    · intro s h2
      rcases List.mem_append.1 h2 with h3 | h3
      · exact hl s h3
      · rw [List.mem_singleton.1 h3]; exact hs
    · refine Ev.bind h ?_
      have hm : (cn a0 a1 a3 a4 a5) line ∉ l.map (cn a0 a1 a3 a4 a5) := fun h2 => e ((It.hk_iff _ _).2 h2)
      rw [It.ix_new _ _ hm, List.length_map]
      simp only [Bool.false_eq_true, if_false]
      exact Ev.now _
/-- the classes of two texts' lines -/
def two (x y : List ByteArray) : List Int × List Int × Int := ((It.nm [] (x.map (cn a0 a1 a3 a4 a5))).1, (It.nm (It.nm [] (x.map (cn a0 a1 a3 a4 a5))).2 (y.map (cn a0 a1 a3 a4 a5))).1, ((It.nm (It.nm [] (x.map (cn a0 a1 a3 a4 a5))).2 (y.map (cn a0 a1 a3 a4 a5))).2.length : Int))
end
end C4
end Go.Proofs.YtglffceopijogaaDoor.Q
