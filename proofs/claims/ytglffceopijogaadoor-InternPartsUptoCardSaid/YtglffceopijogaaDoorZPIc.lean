/- plain: the law InternParts -/
import Derived.Test.YtglffceopijogaaDoorZPIb
import Derived.Test.YtglffceopijogaaDoorZPXx78
namespace Go.Proofs.YtglffceopijogaaDoor.Q
set_option linter.unusedVariables false
set_option linter.unusedSimpArgs false
open Go.RowKit Go.Proofs.YtglffceopijogaaDoor.X Go.Proofs.YtglffceopijogaaDoorW.PrintWords Go.Proofs.YtglffceopijogaaDoorW.PrintLast Go.Proofs.YtglffceopijogaaDoorW.PrintMore
namespace C4
open C3 (cn)
theorem ix_inj : ∀ (ks : List ByteArray) (s t : ByteArray), s ∈ ks → t ∈ ks → It.ix ks s = It.ix ks t → s = t
  | [], s, t, h, _, _ => by cases h
  | k :: ks, s, t, hs, ht, h => by
    rw [It.ix, It.ix] at h
    by_cases e1 : k = s
    · by_cases e2 : k = t
      · rw [← e1, ← e2]
      · rw [if_pos e1, if_neg e2] at h; omega
    · by_cases e2 : k = t
      · rw [if_neg e1, if_pos e2] at h; omega
      · rw [if_neg e1, if_neg e2] at h
        refine ix_inj ks s t ?_ ?_ (by omega)
        · cases hs with | head => exact absurd rfl e1 | tail _ h => exact h
        · cases ht with | head => exact absurd rfl e2 | tail _ h => exact h
section
variable (a0 a1 a2 a3 a4 a5 : Bool) (all : List ByteArray) (hall : ∀ s ∈ all, s.size ≤ 10000000) (hl : all.length ≤ 1000) (X : List ByteArray) (hX : all.map (cn a0 a1 a3 a4 a5) = X) (l : List Int) (hL : (It.nm [] X).1 = l) (n : Int) (hn : ((It.nm [] X).2.length : Int) = n)
include hall hl hX hL hn
theorem lens : X.length = all.length ∧ l.length = all.length := by
  have u1 := hall
  have u2 := hl
  have u3 := hn
  have h := (It.nm_len X []).1
  rw [hL] at h
  have h2 : X.length = all.length := by rw [← hX, List.length_map]
  exact ⟨h2, by omega⟩
/-- the number at a place -/
theorem num_at (i : Nat) (hi : i < all.length) : ∃ k, X[i]? = some k ∧ cn a0 a1 a3 a4 a5 (rdOf ByteArray.empty all (i : Int)) = k ∧ rd l (i : Int) = (It.ix (It.nm [] X).2 k : Int) ∧ k ∈ (It.nm [] X).2 := by
  obtain ⟨h1, h2⟩ := lens a0 a1 a3 a4 a5 all hall hl X hX l hL n hn
  have hI := nm_ix X []
  obtain ⟨k, hk⟩ : ∃ k, X[i]? = some k := ⟨_, List.getElem?_eq_getElem (by omega)⟩
  refine ⟨k, hk, ?_, ?_, hI.2 k (List.mem_of_getElem? hk)⟩
  · rw [← hX, List.getElem?_map] at hk
    rw [List.getElem?_eq_getElem hi] at hk
    simp only [Option.map_some, Option.some.injEq] at hk
    rw [← hk]
    congr 1
    simp [rdOf, List.getD_eq_getElem?_getD, hi]
  · rw [← hL, hI.1]
    rw [rd_nat, List.getD_eq_getElem?_getD, List.getElem?_map, hk]
    rfl
theorem inner (next : Int) (i : Nat) (hi : i < all.length) (rest : Ev (fun k => redlinelaw04_InternParts.l0 k n all l next ((i + 1 : Nat) : Int) a0 a1 a2 a3 a4 a5) true) :
    ∀ m j : Nat, j + m = i → Ev (fun k => redlinelaw04_InternParts.l1 k n all l next (i : Int) (j : Int) a0 a1 a2 a3 a4 a5) true
  | 0, j, hj => by
    apply Ev_unfold
    simp only [redlinelaw04_InternParts.l1, if_neg (show ¬ ((j : Int) < (i : Int)) by omega), wadd i (by omega)]
    exact rest
  | m + 1, j, hj => by
    obtain ⟨h1, h2⟩ := lens a0 a1 a3 a4 a5 all hall hl X hX l hL n hn
    obtain ⟨k1, g1, g2, g3, g4⟩ := num_at a0 a1 a3 a4 a5 all hall hl X hX l hL n hn i hi
    obtain ⟨k2, f1, f2, f3, f4⟩ := num_at a0 a1 a3 a4 a5 all hall hl X hX l hL n hn j (by omega)
    have sz : ∀ q : Nat, q < all.length → (rdOf ByteArray.empty all (q : Int)).size ≤ 10000000 := by
      intro q hq
      have : rdOf ByteArray.empty all (q : Int) = all[q] := by simp [rdOf, List.getD_eq_getElem?_getD, hq]
      rw [this]
      exact hall _ (List.getElem_mem hq)
    have eq := equal_d a0 a1 a2 a3 a4 a5 (rdOf ByteArray.empty all (i : Int)) (rdOf ByteArray.empty all (j : Int)) (sz i hi) (sz j (by omega))
    rw [g2, f2] at eq
    have he : (rd l (i : Int) == rd l (j : Int)) = decide (k1 = k2) := by
      rw [g3, f3]
      by_cases e : k1 = k2
      · rw [e, decide_eq_true rfl, beq_self_eq_true]
      · rw [decide_eq_false e, beq_eq_false_iff_ne]
        intro h
        exact e (ix_inj _ _ _ g4 f4 (by omega))
    apply Ev_unfold
    simp only [redlinelaw04_InternParts.l1, if_pos (show (j : Int) < (i : Int) by omega), if_pos (show (0 : Int) ≤ (i : Int) by omega), if_pos (show (i : Int) < (l.length : Int) by omega), if_pos (show (0 : Int) ≤ (j : Int) by omega), if_pos (show (j : Int) < (l.length : Int) by omega), if_pos (show (i : Int) < (all.length : Int) by omega), if_pos (show (j : Int) < (all.length : Int) by omega), eq, bsome, he, bne_self_eq_false, Bool.false_eq_true, if_false, wadd j (by omega)]
    exact inner next i hi rest m (j + 1) (by omega)
theorem outer : ∀ m i : Nat, i + m = all.length → Ev (fun k => redlinelaw04_InternParts.l0 k n all l ((It.nm [] (X.take i)).2.length : Int) (i : Int) a0 a1 a2 a3 a4 a5) true
  | 0, i, hi => by
    obtain ⟨h1, h2⟩ := lens a0 a1 a3 a4 a5 all hall hl X hX l hL n hn
    apply Ev_unfold
    rw [List.take_of_length_le (by omega), hn]
    simp only [redlinelaw04_InternParts.l0, if_neg (show ¬ ((i : Int) < (l.length : Int)) by omega), beq_self_eq_true]
    exact Ev.now _
  | m + 1, i, hi => by
    obtain ⟨h1, h2⟩ := lens a0 a1 a3 a4 a5 all hall hl X hX l hL n hn
    obtain ⟨k1, g1, g2, g3, g4⟩ := num_at a0 a1 a3 a4 a5 all hall hl X hX l hL n hn i (by omega)
    have ih := outer m (i + 1) (by omega)
    obtain ⟨cs, hcs⟩ : ∃ cs, (It.nm [] (X.take i)).2 = cs := ⟨_, rfl⟩
    have hlen := (It.nm_len (X.take i) []).2
    rw [hcs, List.length_take] at hlen
    simp at hlen
    have ht : X.take (i + 1) = X.take i ++ [k1] := by
      rw [List.take_add_one, g1]
      rfl
    have ha : (It.nm [] (X.take (i + 1))).2 = It.ad cs k1 := by
      rw [ht, nm_app, hcs]
      rfl
    rw [ha] at ih
    -- the number at the place, out of the keys so far
    have hv : rd l (i : Int) = (It.ix (It.ad cs k1) k1 : Int) := by
      rw [g3]
      have hs : X = X.take (i + 1) ++ X.drop (i + 1) := (List.take_append_drop _ _).symm
      have h3 := nm_app (X.take (i + 1)) (X.drop (i + 1)) []
      rw [← hs, ha] at h3
      obtain ⟨t, h4⟩ := nm_ext (X.drop (i + 1)) (It.ad cs k1)
      rw [h3, h4, It.ix_app _ _ _ (ad_mem cs k1)]
    obtain ⟨nx, hnx⟩ : ∃ nx : Int, (cs.length : Int) = nx := ⟨_, rfl⟩
    rw [hcs]
    obtain ⟨v, hvv⟩ : ∃ v : Int, (It.ix (It.ad cs k1) k1 : Int) = v := ⟨_, rfl⟩
    rw [hvv] at hv
    have hcase : (v < nx ∧ ((It.ad cs k1).length : Int) = nx) ∨ (v = nx ∧ ((It.ad cs k1).length : Int) = nx + 1) := by
      by_cases hm : k1 ∈ cs
      · have e := ad_known cs k1 hm
        rw [e] at hvv ⊢
        have := It.ix_lt cs k1 hm
        left
        omega
      · have e : It.ad cs k1 = cs ++ [k1] := by
          unfold It.ad
          rw [if_neg (fun h => hm ((It.hk_iff _ _).1 h))]
        rw [e] at hvv ⊢
        rw [It.ix_new cs k1 hm] at hvv
        right
        rw [List.length_append, List.length_singleton]
        omega
    have hv0 : 0 ≤ v := by omega
    have hc0 : 0 ≤ nx ∧ nx ≤ 1000 := by omega
    rw [hnx]
    have in_ := fun next rest => inner a0 a1 a2 a3 a4 a5 all hall hl X hX l hL n hn next i (by omega) rest i 0 (by omega)
    have step : Ev (fun k => redlinelaw04_InternParts.j3 k n all l nx (i : Int) false a0 a1 a2 a3 a4 a5) true := by
      apply Ev_unfold
      simp only [redlinelaw04_InternParts.j3, Bool.false_eq_true, if_false, if_pos (show (0 : Int) ≤ (i : Int) by omega), if_pos (show (i : Int) < (l.length : Int) by omega), hv]
      rcases hcase with ⟨c1, c2⟩ | ⟨c1, c2⟩
      · rw [c2] at ih
        simp only [if_neg (show ¬ v = nx by omega)]
        apply Ev_unfold
        simp only [redlinelaw04_InternParts.j4]
        exact in_ nx ih
      · rw [c2] at ih
        simp only [if_pos c1, w64 (nx + 1) (by omega)]
        apply Ev_unfold
        simp only [redlinelaw04_InternParts.j4]
        exact in_ (nx + 1) ih
    apply Ev_unfold
    simp only [redlinelaw04_InternParts.l0, if_pos (show (i : Int) < (l.length : Int) by omega), if_pos (show (0 : Int) ≤ (i : Int) by omega), hv, if_neg (show ¬ v < 0 by omega), decide_eq_false (show ¬ v > nx by omega)]
    exact step
end
theorem parts_all (x y : List ByteArray) (a0 a1 a2 a3 a4 a5 : Bool) (hx : ∀ s ∈ x, s.size ≤ 10000000) (hy : ∀ s ∈ y, s.size ≤ 10000000) : Ev (fun k => redlinelaw04_InternParts.f k x y a0 a1 a2 a3 a4 a5) true := by
  have yes : Ev (fun k => redlinelaw04_InternParts.j0 k x y true a0 a1 a2 a3 a4 a5) true := by
    apply Ev_unfold
    simp only [redlinelaw04_InternParts.j0, if_true]
    exact Ev.now _
  unfold redlinelaw04_InternParts.f
  refine Ev.bind works_true ?_
  simp only [if_true]
  by_cases h1 : (x.length : Int) > 60
  · simp only [if_pos h1]; exact yes
  simp only [if_neg h1]
  by_cases h2 : (y.length : Int) > 60
  · simp only [decide_eq_true h2]; exact yes
  simp only [decide_eq_false h2]
  have lx : x.length ≤ 60 := by omega
  have ly : y.length ≤ 60 := by omega
  have hxy : ∀ s ∈ x ++ y, s.size ≤ 10000000 := fun s h => (List.mem_append.1 h).elim (hx s) (hy s)
  have lxy : (x ++ y).length ≤ 1000 := by rw [List.length_append]; omega
  have p1 := classes_p a0 a1 a2 a3 a4 a5 x y hx hy (by omega) (by omega)
  obtain ⟨X, hX⟩ : ∃ X, x.map (cn a0 a1 a3 a4 a5) = X := ⟨_, rfl⟩
  obtain ⟨Y, hY⟩ : ∃ Y, y.map (cn a0 a1 a3 a4 a5) = Y := ⟨_, rfl⟩
  have lX : X.length = x.length := by rw [← hX, List.length_map]
  have lY : Y.length = y.length := by rw [← hY, List.length_map]
  have eXY : (x ++ y).map (cn a0 a1 a3 a4 a5) = X ++ Y := by rw [List.map_append, hX, hY]
  have hA := nm_app X Y []
  obtain ⟨U, hU⟩ : ∃ U, (It.nm [] X).1 = U := ⟨_, rfl⟩
  obtain ⟨V, hV⟩ : ∃ V, (It.nm (It.nm [] X).2 Y).1 = V := ⟨_, rfl⟩
  obtain ⟨n, hn⟩ : ∃ n : Int, ((It.nm (It.nm [] X).2 Y).2.length : Int) = n := ⟨_, rfl⟩
  have t1 : two a0 a1 a3 a4 a5 x y = (U, V, n) := by
    unfold two
    rw [hX, hY, hU, hV, hn]
  rw [t1] at p1
  have n1 := (It.nm_len X []).1
  have n2 := (It.nm_len Y (It.nm [] X).2).1
  rw [hU] at n1
  rw [hV] at n2
  have e1 : (It.nm [] (X ++ Y)).1 = U ++ V := by rw [hA, hU, hV]
  have e2 : ((It.nm [] (X ++ Y)).2.length : Int) = n := by rw [hA]; exact hn
  have run := outer a0 a1 a2 a3 a4 a5 (x ++ y) hxy lxy (X ++ Y) eXY (U ++ V) e1 n e2 (x ++ y).length 0 (by omega)
  have z0 : ((It.nm [] ((X ++ Y).take 0)).2.length : Int) = 0 := rfl
  rw [z0] at run
  apply Ev_unfold
  simp only [redlinelaw04_InternParts.j0, Bool.false_eq_true, if_false, bsome, List.nil_append, List.length_nil, Nat.zero_add, if_pos (show x.length < 8796093022208 by omega), if_pos (show y.length < 8796093022208 by omega), p1, if_pos (show (U.length : Int) = (x.length : Int) by omega)]
  have hv : ((V.length : Int) != (y.length : Int)) = false := by
    rw [show (V.length : Int) = (y.length : Int) by omega, bne_self_eq_false]
  rw [hv]
  apply Ev_unfold
  simp only [redlinelaw04_InternParts.j1, Bool.false_eq_true, if_false, bsome, List.nil_append, List.length_nil, Nat.zero_add, if_pos (show x.length < 8796093022208 by omega), if_pos (show x.length + y.length < 8796093022208 by omega), if_pos (show U.length < 17592186044416 by omega), if_pos (show U.length + V.length < 17592186044416 by omega)]
  exact run
end C4
end Go.Proofs.YtglffceopijogaaDoor.Q
