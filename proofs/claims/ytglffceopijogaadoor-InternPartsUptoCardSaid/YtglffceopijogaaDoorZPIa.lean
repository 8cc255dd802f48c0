/- plain: the classes of two texts' lines -/
import Derived.Test.YtglffceopijogaaDoorZPCd
import Derived.Test.YtglffceopijogaaDoorZPXx59
import Derived.Test.YtglffceopijogaaDoorZPXx69
import Derived.Test.YtglffceopijogaaDoorZPXx72
import Derived.Test.YtglffceopijogaaDoorZPXx73
import Derived.Test.YtglffceopijogaaDoorZPXx74
namespace Go.Proofs.YtglffceopijogaaDoor.Q
set_option linter.unusedVariables false
set_option linter.unusedSimpArgs false
open Go.RowKit Go.Proofs.YtglffceopijogaaDoor.X Go.Proofs.YtglffceopijogaaDoorW.PrintWords Go.Proofs.YtglffceopijogaaDoorW.PrintLast Go.Proofs.YtglffceopijogaaDoorW.PrintMore
namespace C4
open C3
theorem cn_size (a0 a1 a3 a4 a5 : Bool) (s : ByteArray) : (cn a0 a1 a3 a4 a5 s).size ≤ 8 * s.size + 1 := by
  have hz := bare_size s
  have hl := txl_len a0 a1 a3 a4 a5 (bare s).1.data.toList
  rw [← Lib.size_eq] at hl
  unfold cn
  split
  · rw [ByteArray.size_append, tt_size]
    have : (⟨#[10]⟩ : ByteArray).size = 1 := rfl
    omega
  · rw [tt_size]; omega
theorem bytes_eq (x y : ByteArray) : (x.toList == y.toList) = decide (x = y) := by
  by_cases h : x = y
  · rw [h, decide_eq_true rfl, beq_self_eq_true]
  · rw [decide_eq_false h, beq_eq_false_iff_ne.mpr (fun e => h (by rw [Lib.toList_data, Lib.toList_data] at e; exact tt_inj e))]
section
variable (a0 a1 a2 a3 a4 a5 : Bool)
theorem equal_d (a b : ByteArray) (ha : a.size ≤ 10000000) (hb : b.size ≤ 10000000) : canon_Equal.f a b a0 a1 a2 a3 a4 a5 = some (decide ((cn a0 a1 a3 a4 a5) a = (cn a0 a1 a3 a4 a5) b)) := by
  rw [equal_p a b a0 a1 a2 a3 a4 a5 ha hb, bytes_eq]
theorem ky_all : ∀ l : List ByteArray, (∀ s ∈ l, s.size ≤ 10000000) → It.ky a0 a1 a2 a3 a4 a5 l = some (l.map (cn a0 a1 a3 a4 a5))
  | [], _ => rfl
  | s :: l, h => by
    have hs := h s (List.mem_cons_self ..)
    have hz := cn_size a0 a1 a3 a4 a5 s
    rw [It.ky, canon_p s a0 a1 a2 a3 a4 a5 hs, bsome, if_pos (by omega), ky_all l (fun t ht => h t (List.mem_cons_of_mem _ ht)), bsome]
    rfl
/-- the classes of two texts' lines -/
def two (x y : List ByteArray) : List Int × List Int × Int := ((It.nm [] (x.map (cn a0 a1 a3 a4 a5))).1, (It.nm (It.nm [] (x.map (cn a0 a1 a3 a4 a5))).2 (y.map (cn a0 a1 a3 a4 a5))).1, ((It.nm (It.nm [] (x.map (cn a0 a1 a3 a4 a5))).2 (y.map (cn a0 a1 a3 a4 a5))).2.length : Int))
theorem classes_p (x y : List ByteArray) (hx : ∀ s ∈ x, s.size ≤ 10000000) (hy : ∀ s ∈ y, s.size ≤ 10000000) (lx : x.length ≤ 5000000) (ly : y.length ≤ 5000000) : intern_Classes.f x y a0 a1 a2 a3 a4 a5 = some (two a0 a1 a3 a4 a5 x y) := by
  unfold intern_Classes.f
  rw [if_pos ⟨lx, ly⟩, ky_all a0 a1 a2 a3 a4 a5 x hx, bsome, ky_all a0 a1 a2 a3 a4 a5 y hy, bsome]
  rfl
end
theorem ints_l (x : List Int) (hx : x.length < 1000000000000) : ∀ n i : Nat, i + n = x.length → Ev (fun k => redlineref04_SameInts.l0 k x x (i : Int)) true
  | 0, i, h => by
    apply Ev_unfold
    simp only [redlineref04_SameInts.l0, if_neg (show ¬ ((i : Int) < (x.length : Int)) by omega)]
    exact Ev.now _
  | n + 1, i, h => by
    apply Ev_unfold
    simp only [redlineref04_SameInts.l0, if_pos (show (i : Int) < (x.length : Int) by omega), if_pos (show (0 : Int) ≤ (i : Int) by omega), if_true, wadd i (by omega)]
    exact ints_l x hx n (i + 1) (by omega)
theorem ints_same (x : List Int) (hx : x.length < 1000000000000) : Ev (fun k => redlineref04_SameInts.f k x x) true := by
  unfold redlineref04_SameInts.f
  simp only [if_true]
  exact ints_l x hx x.length 0 (by omega)
end C4
end Go.Proofs.YtglffceopijogaaDoor.Q
