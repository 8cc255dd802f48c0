/- The least script: the program's table, length and script are those of the longest common row; so are the reference's. -/
import Derived.Test.YtonbplflmdpikaaZOQb
import Derived.Test.YtonbplflmdpikaaZOXx27
import Derived.Test.YtonbplflmdpikaaZOXx48
namespace Go.Proofs.Ytonbplflmdpikaa.Q
set_option linter.unusedVariables false
set_option linter.unusedSimpArgs false
open Go.RowKit Go.Proofs.Ytonbplflmdpikaa.X Go.Proofs.YtonbplflmdpikaaW.PrintWords Go.Proofs.YtonbplflmdpikaaW.PrintLast Go.Proofs.YtonbplflmdpikaaW.PrintMore
theorem mn_nat (a b : Nat) : mn (a : Int) (b : Int) = ((min a b : Nat) : Int) := by unfold mn; split <;> omega
theorem mx_nat (a b : Nat) : mx (a : Int) (b : Int) = ((max a b : Nat) : Int) := by unfold mx; split <;> omega
theorem u16 (n : Nat) (h : n < 65536) : IntKind.u16.wrap (n : Int) = (n : Int) := by
  simp only [IntKind.wrap, IntKind.bits, IntKind.signed]
  simp
  omega
/-! the front -/
theorem front_at (x y : List Int) (hx : x.length ≤ 1000000000) (hy : y.length ≤ 1000000000) : ∀ d i, cp x y - i = d → i ≤ cp x y →
    Ev (fun k => minimal_front.l0 k x y ((min x.length y.length : Nat) : Int) (i : Int)) (cp x y : Int) := by
  have hc := cp_le x y
  intro d
  induction d with
  | zero =>
    intro i hd hi
    have e : i = cp x y := by omega
    subst e
    apply Ev_unfold
    by_cases h : cp x y < x.length ∧ cp x y < y.length
    · have hne := cp_stop x y h.1 h.2
      simp only [minimal_front.l0, if_pos (show ((cp x y : Nat) : Int) < ((min x.length y.length : Nat) : Int) by omega), if_pos (show (0 : Int) ≤ ((cp x y : Nat) : Int) by omega), if_pos (show ((cp x y : Nat) : Int) < (x.length : Int) by omega), if_pos (show ((cp x y : Nat) : Int) < (y.length : Int) by omega), rd_nat, if_neg hne]
      exact Ev.now _
    · simp only [minimal_front.l0, if_neg (show ¬ ((cp x y : Nat) : Int) < ((min x.length y.length : Nat) : Int) by omega), mn_nat]
      rw [show min x.length y.length = cp x y by omega]
      exact Ev.now _
  | succ d ih =>
    intro i hd hi
    have hw1 : wrap64 ((i : Int) + 1) = ((i + 1 : Nat) : Int) := by rw [w64 _ (by omega)]; omega
    apply Ev_unfold
    simp only [minimal_front.l0, if_pos (show (i : Int) < ((min x.length y.length : Nat) : Int) by omega), if_pos (show (0 : Int) ≤ (i : Int) by omega), if_pos (show (i : Int) < (x.length : Int) by omega), if_pos (show (i : Int) < (y.length : Int) by omega), rd_nat, if_pos (cp_same x y i (by omega)), hw1]
    exact ih (i + 1) (by omega) (by omega)
theorem front (x y : List Int) (hx : x.length ≤ 1000000000) (hy : y.length ≤ 1000000000) : Ev (fun k => minimal_front.f k x y) (cp x y : Int) := by
  unfold minimal_front.f
  rw [mn_nat]
  exact front_at x y hx hy _ 0 rfl (by omega)
/-! the table -/
theorem idx_inj {w i j i' j' : Nat} (hj : j < w) (hj' : j' < w) (h : i * w + j = i' * w + j') : i = i' ∧ j = j' := by
  have h1 : (i * w + j) / w = i := by rw [Nat.mul_comm, Nat.mul_add_div (by omega), Nat.div_eq_of_lt hj]; omega
  have h2 : (i' * w + j') / w = i' := by rw [Nat.mul_comm, Nat.mul_add_div (by omega), Nat.div_eq_of_lt hj']; omega
  have e : i = i' := by rw [← h1, ← h2, h]
  subst e
  exact ⟨rfl, by omega⟩
theorem idx_lt {w i j n : Nat} (hi : i ≤ n) (hj : j < w) : i * w + j < (n + 1) * w := by
  have : i * w ≤ n * w := Nat.mul_le_mul_right _ hi
  rw [Nat.add_mul]; omega
/-- rows below i0, and of row i0 from place j0 on, are right -/
def Tab (x y : List Int) (i0 j0 : Nat) (T : List Int) : Prop :=
  T.length = (x.length + 1) * (y.length + 1) ∧ ∀ i j, i ≤ x.length → j ≤ y.length → (i0 < i ∨ (i = i0 ∧ j0 ≤ j) ∨ j = y.length) → T.getD (i * (y.length + 1) + j) 0 = (L (x.drop i) (y.drop j) : Int)
theorem tab_row (x y : List Int) (hx : x.length < 65000) (i : Nat) (hi : i < x.length) : ∀ j T, j ≤ y.length → Tab x y i j T → Tab x y i 0 (minimal_of.row x y (y.length + 1) i j T)
  | 0, T, _, h => h
  | j + 1, T, hj, h => by
    rw [minimal_of.row]
    refine tab_row x y hx i hi j _ (by omega) ?_
    obtain ⟨hl, hT⟩ := h
    refine ⟨by rw [List.length_set]; exact hl, fun i' j' hi' hj' hc => ?_⟩
    rw [getD_set _ _ _ _ (by rw [hl]; exact idx_lt (by omega) (by omega))]
    by_cases e : i * (y.length + 1) + j = i' * (y.length + 1) + j'
    · obtain ⟨rfl, rfl⟩ := idx_inj (by omega) (by omega) e
      rw [if_pos rfl, hT (i + 1) (j + 1) (by omega) (by omega) (.inl (by omega)), hT (i + 1) j (by omega) (by omega) (.inl (by omega)), hT i (j + 1) (by omega) (by omega) (.inr (.inl ⟨rfl, by omega⟩)), drop_cons x i hi, drop_cons y j (by omega), L_cons]
      by_cases hq : x.getD i 0 = y.getD j 0
      · rw [if_pos hq, if_pos hq]
        have := L_le_l (x.drop (i + 1)) (y.drop (j + 1))
        rw [List.length_drop] at this
        have h2 := u16 (L (x.drop (i + 1)) (y.drop (j + 1)) + 1) (by omega)
        rw [← h2]; congr 1
      · rw [if_neg hq, if_neg hq, mx_nat]
    · rw [if_neg e]
      refine hT i' j' hi' hj' ?_
      rcases hc with hc | ⟨rfl, hc⟩ | hc
      · exact .inl hc
      · refine .inr (.inl ⟨rfl, ?_⟩)
        rcases Nat.lt_or_ge j j' with h1 | h1
        · omega
        · exact absurd (by rw [show j = j' by omega]) e
      · exact .inr (.inr hc)
theorem tab_rows (x y : List Int) (hx : x.length < 65000) : ∀ i T, i ≤ x.length → Tab x y i 0 T → Tab x y 0 0 (minimal_of.rows x y (y.length + 1) i T)
  | 0, T, _, h => h
  | i + 1, T, hi, h => by
    rw [minimal_of.rows]
    refine tab_rows x y hx i _ (by omega) (tab_row x y hx i (by omega) y.length T (Nat.le_refl _) ⟨h.1, fun i' j' hi' hj' hc => h.2 i' j' hi' hj' ?_⟩)
    rcases hc with hc | ⟨rfl, hc⟩ | hc
    · rcases Nat.lt_or_ge (i + 1) i' with h1 | h1
      · exact .inl h1
      · exact .inr (.inl ⟨by omega, by omega⟩)
    · exact .inr (.inr (by omega))
    · exact .inr (.inr hc)
theorem of_spec (x y : List Int) (hx : x.length ≤ 4096) (hy : y.length ≤ 4096) : ∃ T, minimal_of.f x y = some ((y.length : Int) + 1, T) ∧ Tab x y 0 0 T := by
  unfold minimal_of.f
  have h : (x.length + 1) * (y.length + 1) ≤ 4097 * 4097 := Nat.mul_le_mul (by omega) (by omega)
  rw [if_pos (by omega)]
  refine ⟨_, rfl, tab_rows x y (by omega) x.length _ (Nat.le_refl _) ⟨List.length_replicate, fun i j hi hj hc => ?_⟩⟩
  have h0 : (List.replicate ((x.length + 1) * (y.length + 1)) (0 : Int)).getD (i * (y.length + 1) + j) 0 = 0 := by
    rw [List.getD_eq_getElem?_getD, List.getElem?_replicate]; split <;> rfl
  rw [h0]
  rcases hc with hc | ⟨rfl, hc⟩ | hc
  · omega
  · rw [List.drop_length, L_nil_l]; rfl
  · subst hc; rw [List.drop_length, L_nil_r]; rfl
theorem at_spec (x y : List Int) (hx : x.length ≤ 4096) (hy : y.length ≤ 4096) (T : List Int) (h : Tab x y 0 0 T) (i j : Nat) (hi : i ≤ x.length) (hj : j ≤ y.length) : minimal_lengths_at.f ((y.length : Int) + 1) T (i : Int) (j : Int) = some (L (x.drop i) (y.drop j) : Int) := by
  have hb : (x.length + 1) * (y.length + 1) ≤ 4097 * 4097 := Nat.mul_le_mul (by omega) (by omega)
  have hlt := idx_lt (w := y.length + 1) hi (show j < y.length + 1 by omega)
  have e : (i : Int) * ((y.length : Int) + 1) = ((i * (y.length + 1) : Nat) : Int) := by push_cast; rfl
  have w1 : wrap64 ((i : Int) * ((y.length : Int) + 1)) = ((i * (y.length + 1) : Nat) : Int) := by rw [e, w64 _ (by omega)]
  have w2 : wrap64 (((i * (y.length + 1) : Nat) : Int) + (j : Int)) = ((i * (y.length + 1) + j : Nat) : Int) := by rw [w64 _ (by omega)]; omega
  unfold minimal_lengths_at.f
  rw [w1, w2, if_pos (by omega), if_pos (by rw [h.1]; omega), rd_nat, h.2 i j hi hj]
  rcases Nat.lt_or_ge 0 i with h1 | h1
  · exact .inl h1
  · exact .inr (.inl ⟨by omega, by omega⟩)
theorem long_no (x y : List Int) (hx : x.length ≤ 4096) (hy : y.length ≤ 4096) : minimal_long.f x y = some false := by
  unfold minimal_long.f
  rw [if_neg (by omega), decide_eq_false (by omega)]
/-! the script -/
section
variable (x y : List Int) (hx : x.length ≤ 4096) (hy : y.length ≤ 4096)
include hx hy
theorem diff_tail : ∀ (r i : Nat) (done : List Int), i + r = x.length → done.length = i →
    Ev (fun k => minimal_Diff.l2 k x y (done ++ List.replicate r 0) (i : Int)) (make (done ++ List.replicate r (-1)) y.length)
  | 0, i, done, hi, hd => by
    apply Ev_unfold
    simp only [minimal_Diff.l2, if_neg (show ¬ (i : Int) < (x.length : Int) by omega), List.replicate_zero, List.append_nil]
    rw [make_prog done y.length (by omega) (by omega)]
    exact Ev.now _
  | r + 1, i, done, hi, hd => by
    have hw1 : wrap64 ((i : Int) + 1) = ((i + 1 : Nat) : Int) := by rw [w64 _ (by omega)]; omega
    apply Ev_unfold
    simp only [minimal_Diff.l2, if_pos (show (i : Int) < (x.length : Int) by omega), if_pos (show (0 : Int) ≤ (i : Int) by omega), if_pos (show (i : Int) < ((done ++ List.replicate (r + 1) (0 : Int)).length : Int) by simp; omega), Int.toNat_natCast, hw1]
    rw [set_done done i r (-1) hd]
    have := diff_tail r (i + 1) (done ++ [-1]) (by omega) (by simp [hd])
    rw [show done ++ List.replicate (r + 1) (-1 : Int) = (done ++ [-1]) ++ List.replicate r (-1) by simp [List.replicate_succ]]
    exact this
theorem diff_end (n w : Int) (T : List Int) (i j : Nat) (done : List Int) (hi : i ≤ x.length) (hj : j ≤ y.length) (hl : done.length = i) (h : ¬ (i < x.length ∧ j < y.length)) :
    Ev (fun k => minimal_Diff.l1 k x y n (done ++ List.replicate (x.length - i) 0) (i : Int) (j : Int) w T) (make (done ++ kp (x.drop i) (y.drop j) j) y.length) := by
  have ek : kp (x.drop i) (y.drop j) (j : Int) = List.replicate (x.length - i) (-1) := by
    by_cases h1 : i < x.length
    · rw [List.drop_eq_nil_of_le (show y.length ≤ j by omega), kp_nil_r, List.length_drop]
    · rw [List.drop_eq_nil_of_le (show x.length ≤ i by omega), kp_nil, show x.length - i = 0 by omega]; rfl
  rw [ek]
  have tail := diff_tail x y hx hy (x.length - i) i done (by omega) hl
  have step : Ev (fun k => minimal_Diff.j2 k x y n (done ++ List.replicate (x.length - i) 0) (i : Int) (j : Int) false w T) (make (done ++ List.replicate (x.length - i) (-1)) y.length) := by
    apply Ev_unfold
    simp only [minimal_Diff.j2, Bool.false_eq_true, if_false]
    exact tail
  apply Ev_unfold
  by_cases h1 : (i : Int) < (x.length : Int)
  · have h2 : decide ((j : Int) < (y.length : Int)) = false := decide_eq_false (by omega)
    simp only [minimal_Diff.l1, if_pos h1, h2]
    exact step
  · simp only [minimal_Diff.l1, if_neg h1]
    exact step
set_option maxHeartbeats 4000000 in
theorem diff_main (n : Nat) (hn : n = cp x y) (T : List Int) (hT : Tab (x.drop n) (y.drop n) 0 0 T) : ∀ (d i j : Nat) (done : List Int), (x.length - i) + (y.length - j) ≤ d → n ≤ i → n ≤ j → i ≤ x.length → j ≤ y.length → done.length = i →
    Ev (fun k => minimal_Diff.l1 k x y (n : Int) (done ++ List.replicate (x.length - i) 0) (i : Int) (j : Int) (((y.drop n).length : Int) + 1) T) (make (done ++ kp (x.drop i) (y.drop j) j) y.length) := by
  have hc := cp_le x y
  intro d
  induction d with
  | zero =>
    intro i j done hd hni hnj hi hj hl
    exact diff_end x y hx hy _ _ T i j done hi hj hl (by omega)
  | succ d ih =>
    intro i j done hd hni hnj hi hj hl
    by_cases hb : i < x.length ∧ j < y.length
    case neg => exact diff_end x y hx hy _ _ T i j done hi hj hl hb
    obtain ⟨h1, h2⟩ := hb
    have g1 : (i : Int) < (x.length : Int) := by omega
    have g2 : decide ((j : Int) < (y.length : Int)) = true := decide_eq_true (by omega)
    apply Ev_unfold
    simp only [minimal_Diff.l1, if_pos g1, g2]
    apply Ev_unfold
    have hlen : (i : Int) < ((done ++ List.replicate (x.length - i) (0 : Int)).length : Int) := by simp; omega
    have er : x.length - i = (x.length - (i + 1)) + 1 := by omega
    have a1 := at_spec _ _ (by simp; omega) (by simp; omega) T hT (i + 1 - n) (j - n) (by simp; omega) (by simp; omega)
    have a2 := at_spec _ _ (by simp; omega) (by simp; omega) T hT (i - n) (j + 1 - n) (by simp; omega) (by simp; omega)
    rw [List.drop_drop, List.drop_drop, show n + (i + 1 - n) = i + 1 by omega, show n + (j - n) = j by omega] at a1
    rw [List.drop_drop, List.drop_drop, show n + (i - n) = i by omega, show n + (j + 1 - n) = j + 1 by omega] at a2
    have g3 : (0 : Int) ≤ (i : Int) := by omega
    have g4 : (0 : Int) ≤ (j : Int) := by omega
    have g5 : (j : Int) < (y.length : Int) := by omega
    simp only [minimal_Diff.j2, if_true, if_pos g3, if_pos g1, if_pos g4, if_pos g5, rd_nat, if_pos hlen, wadd i (by omega), wadd j (by omega), Int.toNat_natCast, wsub (i + 1) n (by omega) (by omega), wsub j n (by omega) (by omega), wsub i n (by omega) (by omega), wsub (j + 1) n (by omega) (by omega), a1, a2, bsome]
    rw [kp_at x y i j j h1 h2]
    by_cases hq : x.getD i 0 = y.getD j 0
    · simp only [if_pos hq]
      rw [er, set_done done i _ j hl]
      have := ih (i + 1) (j + 1) (done ++ [(j : Int)]) (by omega) (by omega) (by omega) (by omega) (by omega) (by simp [hl])
      rw [show done ++ (j : Int) :: kp (x.drop (i + 1)) (y.drop (j + 1)) ((j : Int) + 1) = (done ++ [(j : Int)]) ++ kp (x.drop (i + 1)) (y.drop (j + 1)) ((j + 1 : Nat) : Int) by simp]
      exact this
    simp only [if_neg hq]
    by_cases hg : L (x.drop i) (y.drop (j + 1)) ≤ L (x.drop (i + 1)) (y.drop j)
    · simp only [if_pos hg, if_pos (show ((L (x.drop (i + 1)) (y.drop j) : Nat) : Int) ≥ ((L (x.drop i) (y.drop (j + 1)) : Nat) : Int) by omega)]
      rw [er, set_done done i _ (-1) hl]
      have := ih (i + 1) j (done ++ [-1]) (by omega) (by omega) (by omega) (by omega) (by omega) (by simp [hl])
      rw [show done ++ -1 :: kp (x.drop (i + 1)) (y.drop j) (j : Int) = (done ++ [-1]) ++ kp (x.drop (i + 1)) (y.drop j) (j : Int) by simp]
      exact this
    · simp only [if_neg hg, if_neg (show ¬ ((L (x.drop (i + 1)) (y.drop j) : Nat) : Int) ≥ ((L (x.drop i) (y.drop (j + 1)) : Nat) : Int) by omega)]
      have := ih i (j + 1) done (by omega) (by omega) (by omega) (by omega) (by omega) hl
      rw [show ((j + 1 : Nat) : Int) = (j : Int) + 1 by omega] at this ⊢
      exact this
theorem diff_front (n : Nat) (hn : n = cp x y) : ∀ (r i : Nat), i + r = n →
    Ev (fun k => minimal_Diff.l0 k x y (n : Int) (upto 0 i ++ List.replicate (x.length - i) 0) (n : Int) (i : Int)) (make (kp x y 0) y.length)
  | 0, i, hi => by
    have hc := cp_le x y
    have e : i = n := by omega
    subst e
    obtain ⟨T, hT, hTab⟩ := of_spec (x.drop i) (y.drop i) (by simp; omega) (by simp; omega)
    apply Ev_unfold
    simp only [minimal_Diff.l0, if_neg (show ¬ (i : Int) < (i : Int) by omega), if_pos (show (0 : Int) ≤ (i : Int) by omega), if_pos (show (i : Int) ≤ (x.length : Int) by omega), if_pos (show (i : Int) ≤ (y.length : Int) by omega), Int.toNat_natCast, hT, bsome]
    have := diff_main x y hx hy i hn T hTab _ i i (upto 0 i) (Nat.le_refl _) (by omega) (by omega) (by omega) (by omega) (upto_len i 0)
    rw [kp_cp x y 0, ← hn, Int.zero_add]
    exact this
  | r + 1, i, hi => by
    have hc := cp_le x y
    have hw1 : wrap64 ((i : Int) + 1) = ((i + 1 : Nat) : Int) := by rw [w64 _ (by omega)]; omega
    have hlen : (i : Int) < ((upto 0 i ++ List.replicate (x.length - i) (0 : Int)).length : Int) := by simp [upto_len]; omega
    have er : x.length - i = (x.length - (i + 1)) + 1 := by omega
    apply Ev_unfold
    simp only [minimal_Diff.l0, if_pos (show (i : Int) < (n : Int) by omega), if_pos (show (0 : Int) ≤ (i : Int) by omega), if_pos hlen, Int.toNat_natCast, hw1]
    have := diff_front n hn r (i + 1) (by omega)
    rw [upto_snoc, Int.zero_add] at this
    rw [er, set_done _ i _ _ (upto_len i 0)]
    exact this
theorem diff_prog : Ev (fun k => minimal_Diff.f k x y) (make (kp x y 0) y.length) := by
  unfold minimal_Diff.f
  rw [long_no x y hx hy]
  simp only [bsome, Bool.false_eq_true, if_false]
  refine Ev.bind (front x y (by omega) (by omega)) ?_
  simp only [if_pos (show (0 : Int) ≤ (x.length : Int) by omega), Int.toNat_natCast, if_pos (show x.length ≤ 35184372088832 by omega)]
  have := diff_front x y hx hy (cp x y) rfl (cp x y) 0 (by omega)
  simpa [upto] using this
end
end Go.Proofs.Ytonbplflmdpikaa.Q
