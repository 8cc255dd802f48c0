/- plain: the run to hold on to (chapter 8), what it is -/
import Derived.Test.YtdcldoembdifpaaZRQn0
namespace Go.Proofs.Ytdcldoembdifpaa.Q
set_option linter.unusedVariables false
set_option linter.unusedSimpArgs false
open Go.RowKit Go.Proofs.Ytdcldoembdifpaa.X Go.Proofs.Ytdcldoembdifpaa.Q.HB Go.Proofs.YtdcldoembdifpaaW.PrintWords Go.Proofs.YtdcldoembdifpaaW.PrintLast Go.Proofs.YtdcldoembdifpaaW.PrintMore
/-- the run to hold on to -/
def bst (x y : List Int) : HbSt := (ri x y x.length 0).foldl fin (0, 0, 0, 0, false)
theorem bst_prog (x y : List Int) (hx : x.length ≤ 1000000) (hy : y.length ≤ 1000000) (wx : ∀ v ∈ x, (Lit.int .i64 v).wf = true) (wy : ∀ v ∈ y, (Lit.int .i64 v).wf = true) : histogram_Best.f x y = some (bst x y) := by
  unfold histogram_Best.f bst
  rw [if_pos ⟨hx, hy, wx, wy⟩, is_eq x y x.length 0 _ (by omega)]
/-- n members are the same at i and j, and no more -/
structure IsR (x y : List Int) (i j n : Nat) : Prop where
  hi : i + n ≤ x.length
  hj : j + n ≤ y.length
  same : ∀ t, t < n → x.getD (i + t) 0 = y.getD (j + t) 0
  stop : i + n < x.length → j + n < y.length → x.getD (i + n) 0 ≠ y.getD (j + n) 0
theorem run_spec (x y : List Int) (i j : Nat) : ∀ q n rare, i + n + q = x.length → j + n ≤ y.length → (∀ t, t < n → x.getD (i + t) 0 = y.getD (j + t) 0) →
    IsR x y i j (hb_run x y i j q n rare).1 ∧ n ≤ (hb_run x y i j q n rare).1 ∧ (hb_run x y i j q n rare).2 ≤ rare ∧ (∀ t, n ≤ t → t < (hb_run x y i j q n rare).1 → (hb_run x y i j q n rare).2 ≤ hb_cnt x (x.getD (i + t) 0)) ∧
      ((hb_run x y i j q n rare).2 = rare ∨ ∃ t, n ≤ t ∧ t < (hb_run x y i j q n rare).1 ∧ (hb_run x y i j q n rare).2 = hb_cnt x (x.getD (i + t) 0)) := by
  intro q
  induction q with
  | zero =>
    intro n rare h1 h2 h3
    simp only [hb_run]
    exact ⟨⟨by omega, h2, h3, by omega⟩, Nat.le_refl _, Int.le_refl _, by intro t _ _; omega, by simp⟩
  | succ q ih =>
    intro n rare h1 h2 h3
    rw [hb_run]
    by_cases h : i + n < x.length ∧ j + n < y.length ∧ x.getD (i + n) 0 = y.getD (j + n) 0
    · rw [if_pos h]
      obtain ⟨a1, a2, a3, a4, a5⟩ := ih (n + 1) (mn rare (hb_cnt x (x.getD (i + n) 0))) (by omega) (by omega) (by
        intro t ht
        by_cases e : t = n
        · subst e; exact h.2.2
        · exact h3 t (by omega))
      have m1 : mn rare (hb_cnt x (x.getD (i + n) 0)) ≤ rare := by unfold mn; split <;> omega
      have m2 : mn rare (hb_cnt x (x.getD (i + n) 0)) ≤ hb_cnt x (x.getD (i + n) 0) := by unfold mn; split <;> omega
      have m3 : mn rare (hb_cnt x (x.getD (i + n) 0)) = rare ∨ mn rare (hb_cnt x (x.getD (i + n) 0)) = hb_cnt x (x.getD (i + n) 0) := by unfold mn; split <;> simp
      generalize hb_run x y i j q (n + 1) (mn rare (hb_cnt x (x.getD (i + n) 0))) = r at *
      refine ⟨a1, by omega, by omega, ?_, ?_⟩
      · intro t t1 t2
        by_cases e : t = n
        · subst e; omega
        · exact a4 t (by omega) t2
      · rcases a5 with a5 | ⟨t, t1, t2, t3⟩
        · rcases m3 with m3 | m3
          · left; omega
          · right; exact ⟨n, by omega, by omega, by omega⟩
        · right; exact ⟨t, by omega, t2, t3⟩
    · rw [if_neg h]
      exact ⟨⟨by omega, h2, h3, fun p q e => h ⟨p, q, e⟩⟩, Nat.le_refl _, Int.le_refl _, by intro t _ _; omega, by simp⟩
theorem rj_mem (x y : List Int) (i : Nat) (r : Rn) : ∀ q j, r ∈ rj x y i q j ↔ ∃ j', j ≤ j' ∧ j' < j + q ∧ ¬ skip x y i j' ∧ r = rrun x y i j' := by
  intro q
  induction q with
  | zero => intro j; simp [rj]; intro a b c; omega
  | succ q ih =>
    intro j
    rw [rj, List.mem_append, ih]
    constructor
    · rintro (h | ⟨j', h1, h2, h3, h4⟩)
      · by_cases e : skip x y i j
        · rw [if_pos e] at h; cases h
        · rw [if_neg e, List.mem_singleton] at h
          exact ⟨j, by omega, by omega, e, h⟩
      · exact ⟨j', by omega, by omega, h3, h4⟩
    · rintro ⟨j', h1, h2, h3, h4⟩
      by_cases e : j' = j
      · subst e
        left; rw [if_neg h3, List.mem_singleton]; exact h4
      · right; exact ⟨j', by omega, by omega, h3, h4⟩
theorem ri_mem (x y : List Int) (r : Rn) : ∀ q i, r ∈ ri x y q i ↔ ∃ i' j', i ≤ i' ∧ i' < i + q ∧ j' < y.length ∧ ¬ skip x y i' j' ∧ r = rrun x y i' j' := by
  intro q
  induction q with
  | zero => intro i; simp [ri]; intro a b c; omega
  | succ q ih =>
    intro i
    rw [ri, List.mem_append, ih, rj_mem]
    constructor
    · rintro (⟨j', h1, h2, h3, h4⟩ | ⟨i', j', h1, h2, h3, h4⟩)
      · exact ⟨i, j', by omega, by omega, by omega, h3, h4⟩
      · exact ⟨i', j', by omega, by omega, h3, h4⟩
    · rintro ⟨i', j', h1, h2, h3, h4⟩
      by_cases e : i' = i
      · subst e; left; exact ⟨j', by omega, by omega, h4⟩
      · right; exact ⟨i', j', by omega, by omega, h3, h4⟩
theorem fb_min : ∀ (T : List Rn) (b : Rn), (T.foldl fb b = b ∨ T.foldl fb b ∈ T) ∧ (T.foldl fb b).f3 ≤ b.f3 ∧ ∀ r ∈ T, (T.foldl fb b).f3 ≤ r.f3 := by
  intro T
  induction T with
  | nil => intro b; simp
  | cons r T ih =>
    intro b
    rw [List.foldl_cons]
    obtain ⟨h1, h2, h3⟩ := ih (fb b r)
    have hf : fb b r = b ∨ fb b r = r := by unfold fb; split <;> simp
    have hf1 : (fb b r).f3 ≤ b.f3 := by unfold fb; split <;> omega
    have hf2 : (fb b r).f3 ≤ r.f3 := by unfold fb; split <;> omega
    refine ⟨?_, by omega, ?_⟩
    · rcases h1 with h1 | h1
      · rcases hf with hf | hf
        · left; rw [h1, hf]
        · right; rw [h1, hf]; exact .head _
      · right; exact .tail _ h1
    · intro s hs
      cases hs with
      | head => omega
      | tail _ hs => exact h3 s hs
/-- there is no run, or the best is one of them and none is rarer -/
theorem bst_cases (x y : List Int) : (bst x y = (0, 0, 0, 0, false) ∧ ∀ i j, i < x.length → j < y.length → skip x y i j) ∨
    ∃ i j, i < x.length ∧ j < y.length ∧ ¬ skip x y i j ∧ bst x y = ((rrun x y i j).f0, (rrun x y i j).f1, (rrun x y i j).f2, (rrun x y i j).f3, true) ∧
      ∀ i' j', i' < x.length → j' < y.length → ¬ skip x y i' j' → (rrun x y i j).f3 ≤ (rrun x y i' j').f3 := by
  have hm := fun r => ri_mem x y r x.length 0
  unfold bst
  generalize ri x y x.length 0 = T at hm
  cases T with
  | nil =>
    left
    refine ⟨rfl, ?_⟩
    intro i j hi hj
    by_cases h : skip x y i j
    · exact h
    · have := (hm (rrun x y i j)).2 ⟨i, j, by omega, by omega, hj, h, rfl⟩
      cases this
  | cons b T =>
    right
    rw [List.foldl_cons]
    have e : fin (0, 0, 0, 0, false) b = (b.f0, b.f1, b.f2, b.f3, true) := by unfold fin; rw [if_pos (.inl rfl)]
    rw [e, fold_fin]
    obtain ⟨h1, h2, h3⟩ := fb_min T b
    have hin : T.foldl fb b ∈ b :: T := by
      rcases h1 with h1 | h1
      · rw [h1]; exact .head _
      · exact .tail _ h1
    obtain ⟨i, j, i1, i2, i3, i4, i5⟩ := (hm _).1 hin
    refine ⟨i, j, by omega, i3, i4, by rw [i5], ?_⟩
    intro i' j' hi' hj' hs
    have := (hm (rrun x y i' j')).2 ⟨i', j', by omega, by omega, hj', hs, rfl⟩
    rw [← i5]
    cases this with
    | head => exact h2
    | tail _ h => exact h3 _ h
theorem rrun_spec (x y : List Int) (i j : Nat) (hi : i < x.length) (hj : j < y.length) (hs : ¬ skip x y i j) :
    ∃ n : Nat, (rrun x y i j).f0 = i ∧ (rrun x y i j).f1 = j ∧ (rrun x y i j).f2 = n ∧ 1 ≤ n ∧ IsR x y i j n ∧ (∀ t, t < n → (rrun x y i j).f3 ≤ hb_cnt x (x.getD (i + t) 0)) ∧ ∃ t, t < n ∧ (rrun x y i j).f3 = hb_cnt x (x.getD (i + t) 0) := by
  obtain ⟨h1, h2, h3, h4, h5⟩ := run_spec x y i j (x.length - i) 0 (x.length : Int) (by omega) (by omega) (by intro t ht; omega)
  have e0 : (rrun x y i j).f0 = i := rfl
  have e1 : (rrun x y i j).f1 = j := rfl
  have e2 : (rrun x y i j).f2 = ((hb_run x y i j (x.length - i) 0 (x.length : Int)).1 : Nat) := rfl
  have e3 : (rrun x y i j).f3 = (hb_run x y i j (x.length - i) 0 (x.length : Int)).2 := rfl
  rw [e0, e1, e2, e3]
  generalize hb_run x y i j (x.length - i) 0 (x.length : Int) = r at *
  have hxy : x.getD i 0 = y.getD j 0 := by
    by_cases e : x.getD i 0 = y.getD j 0
    · exact e
    · exact absurd (Or.inl e) hs
  have hn : 1 ≤ r.1 := by
    rcases Nat.eq_zero_or_pos r.1 with e | e
    · exfalso
      have := h1.stop
      rw [e] at this
      exact this (by omega) (by omega) hxy
    · exact e
  refine ⟨r.1, rfl, rfl, rfl, hn, h1, fun t ht => h4 t (by omega) ht, ?_⟩
  rcases h5 with h5 | ⟨t, _, t2, t3⟩
  · refine ⟨0, hn, ?_⟩
    have a := h4 0 (by omega) hn
    have b := hb_cnt_bound x (x.getD (i + 0) 0)
    omega
  · exact ⟨t, t2, t3⟩
/-- any pair of lines that are the same lies in a run, with its begin -/
theorem start_of (x y : List Int) : ∀ i j, i < x.length → j < y.length → x.getD i 0 = y.getD j 0 → ∃ t, t ≤ i ∧ t ≤ j ∧ ¬ skip x y (i - t) (j - t) ∧ ∀ s, s ≤ t → x.getD (i - t + s) 0 = y.getD (j - t + s) 0 := by
  intro i
  induction i with
  | zero =>
    intro j hi hj h
    refine ⟨0, by omega, by omega, ?_, ?_⟩
    · rintro (e | ⟨e, _⟩)
      · exact e h
      · omega
    · intro s hs
      obtain rfl : s = 0 := by omega
      exact h
  | succ i ih =>
    intro j hi hj h
    by_cases h2 : 0 < j ∧ x.getD i 0 = y.getD (j - 1) 0
    · obtain ⟨t, t1, t2, t3, t4⟩ := ih (j - 1) (by omega) (by omega) h2.2
      refine ⟨t + 1, by omega, by omega, ?_, ?_⟩
      · rw [show i + 1 - (t + 1) = i - t from by omega, show j - (t + 1) = j - 1 - t from by omega]; exact t3
      · intro s hs
        rw [show i + 1 - (t + 1) = i - t from by omega, show j - (t + 1) = j - 1 - t from by omega]
        by_cases e : s = t + 1
        · subst e
          rw [show i - t + (t + 1) = i + 1 from by omega, show j - 1 - t + (t + 1) = j from by omega]; exact h
        · exact t4 s (by omega)
    · refine ⟨0, by omega, by omega, ?_, ?_⟩
      · rintro (e | ⟨_, e1, e2⟩)
        · exact e h
        · exact h2 ⟨e1, e2⟩
      · intro s hs
        obtain rfl : s = 0 := by omega
        exact h
/-- none is found: no line is in both -/
theorem bst_none (x y : List Int) (h : (bst x y).2.2.2.2 = false) : bst x y = (0, 0, 0, 0, false) ∧ ∀ i j, i < x.length → j < y.length → x.getD i 0 ≠ y.getD j 0 := by
  rcases bst_cases x y with ⟨h1, h2⟩ | ⟨i, j, _, _, _, h4, _⟩
  · refine ⟨h1, ?_⟩
    intro i j hi hj e
    obtain ⟨t, t1, t2, t3, _⟩ := start_of x y i j hi hj e
    exact t3 (h2 _ _ (by omega) (by omega))
  · rw [h4] at h; cases h
/-- the run that is found -/
theorem bst_some (x y : List Int) (h : (bst x y).2.2.2.2 = true) : ∃ i j n : Nat, ∃ rare : Int, bst x y = ((i : Int), (j : Int), (n : Int), rare, true) ∧ 1 ≤ n ∧ IsR x y i j n ∧ (0 < i → 0 < j → x.getD (i - 1) 0 ≠ y.getD (j - 1) 0) ∧
    (∀ a b, a < x.length → b < y.length → x.getD a 0 = y.getD b 0 → rare ≤ hb_cnt x (x.getD a 0)) ∧ ∃ t, t < n ∧ rare = hb_cnt x (x.getD (i + t) 0) := by
  rcases bst_cases x y with ⟨h1, h2⟩ | ⟨i, j, hi, hj, hs, h4, h5⟩
  · rw [h1] at h; cases h
  · obtain ⟨n, e0, e1, e2, hn, hR, hle, hat⟩ := rrun_spec x y i j hi hj hs
    refine ⟨i, j, n, (rrun x y i j).f3, by rw [h4, e0, e1, e2], hn, hR, ?_, ?_, hat⟩
    · intro a b e; exact hs (.inr ⟨a, b, e⟩)
    · intro a b ha hb e
      obtain ⟨t, t1, t2, t3, t4⟩ := start_of x y a b ha hb e
      obtain ⟨n', _, _, _, hn', hR', hle', _⟩ := rrun_spec x y (a - t) (b - t) (by omega) (by omega) t3
      have q1 := h5 (a - t) (b - t) (by omega) (by omega) t3
      have ht : t < n' := by
        rcases Nat.lt_or_ge t n' with e | e
        · exact e
        · exfalso
          exact hR'.stop (by omega) (by omega) (t4 n' e)
      have q2 := hle' t ht
      rw [show a - t + t = a from by omega] at q2
      omega
end Go.Proofs.Ytdcldoembdifpaa.Q
