/- plain: the laws InternClasses and InternGrows -/
import Derived.Test.YtglffceopijogaaDoorZGIa
import Derived.Test.YtglffceopijogaaDoorZGXx75
import Derived.Test.YtglffceopijogaaDoorZGXx76
import Derived.Test.YtglffceopijogaaDoorZGXx77
namespace Go.Proofs.YtglffceopijogaaDoor.Q
set_option linter.unusedVariables false
set_option linter.unusedSimpArgs false
open Go.RowKit Go.Proofs.YtglffceopijogaaDoor.X Go.Proofs.YtglffceopijogaaDoorW.PrintWords Go.Proofs.YtglffceopijogaaDoorW.PrintLast Go.Proofs.YtglffceopijogaaDoorW.PrintMore
namespace C4
open C3 (cn)
theorem works_true : Ev (fun k => redlinelaw04_works.f k) true := by
  unfold redlinelaw04_works.f
  have hc : intern_Classes.f ([(⟨#[65, 10]⟩ : ByteArray), (⟨#[98, 10]⟩ : ByteArray), (⟨#[97, 10]⟩ : ByteArray)] : List ByteArray) ([(⟨#[98, 10]⟩ : ByteArray), (⟨#[99, 10]⟩ : ByteArray)] : List ByteArray) false false false true false false = some ([0, 1, 0], [1, 2], 3) := by
    rw [classes_p false false false true false false _ _ (by decide) (by decide) (by decide) (by decide)]
    have e1 : two false false true false false ([(⟨#[65, 10]⟩ : ByteArray), (⟨#[98, 10]⟩ : ByteArray), (⟨#[97, 10]⟩ : ByteArray)] : List ByteArray) ([(⟨#[98, 10]⟩ : ByteArray), (⟨#[99, 10]⟩ : ByteArray)] : List ByteArray) = ([0, 1, 0], [1, 2], 3) := by decide +kernel
    rw [e1]
  simp only [hc, bsome]
  refine Ev.bind (ints_same _ (by decide)) ?_
  simp only [if_true]
  refine Ev.bind (ints_same _ (by decide)) ?_
  simp only [if_true]
  exact Ev.now _
theorem nm_app : ∀ (A B ks : List ByteArray), It.nm ks (A ++ B) = ((It.nm ks A).1 ++ (It.nm (It.nm ks A).2 B).1, (It.nm (It.nm ks A).2 B).2)
  | [], B, ks => rfl
  | k :: A, B, ks => by
    rw [List.cons_append, It.nm, nm_app A B (It.ad ks k)]
    rfl
theorem ad_mem (ks : List ByteArray) (k : ByteArray) : k ∈ It.ad ks k := by
  unfold It.ad
  by_cases h : It.kin ks k = true
  · rw [if_pos h]; exact (It.hk_iff _ _).1 h
  · rw [if_neg h]; simp
theorem ad_ext (ks : List ByteArray) (k : ByteArray) : ∃ t, It.ad ks k = ks ++ t := by
  unfold It.ad
  by_cases h : It.kin ks k = true
  · rw [if_pos h]; exact ⟨[], by simp⟩
  · rw [if_neg h]; exact ⟨[k], rfl⟩
theorem nm_ext : ∀ (A ks : List ByteArray), ∃ t, (It.nm ks A).2 = ks ++ t
  | [], ks => ⟨[], by simp [It.nm]⟩
  | k :: A, ks => by
    obtain ⟨t, ht⟩ := ad_ext ks k
    obtain ⟨u, hu⟩ := nm_ext A (It.ad ks k)
    exact ⟨t ++ u, by rw [It.nm, hu, ht, List.append_assoc]⟩
/-- each number is the place among the keys at the end -/
theorem nm_ix : ∀ (A ks : List ByteArray), (It.nm ks A).1 = A.map (fun k => (It.ix (It.nm ks A).2 k : Int)) ∧ ∀ k ∈ A, k ∈ (It.nm ks A).2
  | [], ks => ⟨rfl, fun k h => by cases h⟩
  | k :: A, ks => by
    obtain ⟨h1, h2⟩ := nm_ix A (It.ad ks k)
    obtain ⟨t, ht⟩ := nm_ext A (It.ad ks k)
    have hm := ad_mem ks k
    refine ⟨?_, ?_⟩
    · rw [It.nm, List.map_cons]
      show _ :: _ = _ :: _
      congr 1
      show (It.ix (It.ad ks k) k : Int) = (It.ix (It.nm (It.ad ks k) A).2 k : Int)
      rw [ht, It.ix_app _ _ _ hm]
    · intro j hj
      rw [It.nm]
      rcases List.mem_cons.1 hj with e | h
      · subst e
        show j ∈ (It.nm (It.ad ks j) A).2
        rw [ht]
        exact List.mem_append_left _ hm
      · exact h2 j h
theorem ad_known (ks : List ByteArray) (k : ByteArray) (h : k ∈ ks) : It.ad ks k = ks := by
  unfold It.ad
  rw [if_pos ((It.hk_iff _ _).2 h)]
theorem nm_known : ∀ (A ks : List ByteArray), (∀ k ∈ A, k ∈ ks) → It.nm ks A = (A.map (fun k => (It.ix ks k : Int)), ks)
  | [], ks, _ => rfl
  | k :: A, ks, h => by
    rw [It.nm, ad_known ks k (h k (List.mem_cons_self ..)), nm_known A ks (fun j hj => h j (List.mem_cons_of_mem _ hj))]
    rfl
theorem grows_all (x y : List ByteArray) (a0 a1 a2 a3 a4 a5 : Bool) (hx : ∀ s ∈ x, s.size ≤ 10000000) (hy : ∀ s ∈ y, s.size ≤ 10000000) : Ev (fun k => redlinelaw04_InternGrows.f k x y a0 a1 a2 a3 a4 a5) true := by
  have yes : Ev (fun k => redlinelaw04_InternGrows.j0 k x y true a0 a1 a2 a3 a4 a5) true := by
    apply Ev_unfold
    simp only [redlinelaw04_InternGrows.j0, if_true]
    exact Ev.now _
  unfold redlinelaw04_InternGrows.f
  refine Ev.bind works_true ?_
  simp only [if_true]
  by_cases h1 : (x.length : Int) > 100
  · simp only [if_pos h1]; exact yes
  simp only [if_neg h1]
  by_cases h2 : (y.length : Int) > 100
  · simp only [decide_eq_true h2]; exact yes
  simp only [decide_eq_false h2]
  apply Ev_unfold
  have lx : x.length ≤ 5000 := by omega
  have ly : y.length ≤ 5000 := by omega
  have hxy : ∀ s ∈ x ++ y, s.size ≤ 10000000 := fun s h => (List.mem_append.1 h).elim (hx s) (hy s)
  have lxy : (x ++ y).length ≤ 5000000 := by rw [List.length_append]; omega
  have p1 := classes_p a0 a1 a2 a3 a4 a5 x y hx hy (by omega) (by omega)
  have p2 := classes_p a0 a1 a2 a3 a4 a5 (x ++ y) [] hxy (fun s h => by cases h) lxy (by simp)
  have p3 := classes_p a0 a1 a2 a3 a4 a5 (x ++ y) (x ++ y) hxy hxy lxy lxy
  obtain ⟨X, hX⟩ : ∃ X, x.map (cn a0 a1 a3 a4 a5) = X := ⟨_, rfl⟩
  obtain ⟨Y, hY⟩ : ∃ Y, y.map (cn a0 a1 a3 a4 a5) = Y := ⟨_, rfl⟩
  have eXY : (x ++ y).map (cn a0 a1 a3 a4 a5) = X ++ Y := by rw [List.map_append, hX, hY]
  obtain ⟨Z, hZ⟩ : ∃ Z, It.nm [] (X ++ Y) = Z := ⟨_, rfl⟩
  have hA := nm_app X Y []
  rw [hZ] at hA
  have hI := nm_ix (X ++ Y) []
  rw [hZ] at hI
  have hK := nm_known (X ++ Y) Z.2 hI.2
  rw [← hI.1] at hK
  have t1 : two a0 a1 a3 a4 a5 x y = ((It.nm [] X).1, (It.nm (It.nm [] X).2 Y).1, (Z.2.length : Int)) := by
    unfold two
    rw [hX, hY, hA]
  have t2 : two a0 a1 a3 a4 a5 (x ++ y) [] = (Z.1, [], (Z.2.length : Int)) := by
    unfold two
    rw [eXY, hZ]
    rfl
  have t3 : two a0 a1 a3 a4 a5 (x ++ y) (x ++ y) = (Z.1, Z.1, (Z.2.length : Int)) := by
    unfold two
    rw [eXY, hZ, hK]
  rw [t1] at p1
  rw [t2] at p2
  rw [t3] at p3
  have n1 := It.nm_len X []
  have n2 := It.nm_len Y (It.nm [] X).2
  have n3 := It.nm_len (X ++ Y) []
  rw [hZ, List.length_append] at n3
  have lX : X.length ≤ 5000 := by rw [← hX, List.length_map]; exact lx
  have lY : Y.length ≤ 5000 := by rw [← hY, List.length_map]; exact ly
  have e1 : (It.nm [] X).1 ++ (It.nm (It.nm [] X).2 Y).1 = Z.1 := by rw [hA]
  simp only [redlinelaw04_InternGrows.j0, Bool.false_eq_true, if_false, bsome, List.nil_append, List.length_nil, Nat.zero_add, if_pos (show x.length < 8796093022208 by omega), if_pos (show x.length + y.length < 8796093022208 by omega), p1, p2, p3, if_true, Int.natCast_zero, if_pos (show (It.nm [] X).1.length < 17592186044416 by omega), if_pos (show (It.nm [] X).1.length + (It.nm (It.nm [] X).2 Y).1.length < 17592186044416 by omega), e1]
  refine Ev.bind (ints_same Z.1 (by omega)) ?_
  simp only [if_true]
  refine Ev.bind (ints_same Z.1 (by omega)) ?_
  simp only [if_true]
  refine Ev.bind (ints_same Z.1 (by omega)) ?_
  exact Ev.now _
end C4
end Go.Proofs.YtglffceopijogaaDoor.Q
