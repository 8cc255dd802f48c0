/- What the reference keeps by speedy's rule: the same as the program. -/
import Derived.Test.YtdcldoembdifpaaZQd
import Derived.Test.YtdcldoembdifpaaZQk
import Derived.Test.YtdcldoembdifpaaZQj2
import Derived.Test.YtdcldoembdifpaaZXx46
namespace Go.Proofs.Ytdcldoembdifpaa.Q
set_option linter.unusedVariables false
set_option linter.unusedSimpArgs false
open Go.RowKit Go.Proofs.Ytdcldoembdifpaa.X Go.Proofs.YtdcldoembdifpaaW.PrintWords Go.Proofs.YtdcldoembdifpaaW.PrintLast Go.Proofs.YtdcldoembdifpaaW.PrintMore
/-- the ends kept: before a, from b on -/
def TR (n a b d : Nat) : List Int := (List.range n).map fun i => if i < a then (i : Int) else if b ≤ i then ((d + i - b : Nat) : Int) else -1
theorem TR_len (n a b d : Nat) : (TR n a b d).length = n := by simp [TR]
theorem TR_at (n a b d i : Nat) (h : i < n) : (TR n a b d)[i]? = some (if i < a then (i : Int) else if b ≤ i then ((d + i - b : Nat) : Int) else -1) := by
  simp [TR, h]
theorem TR_none (n m : Nat) : TR n 0 n m = List.replicate n (-1) := by
  apply List.ext_getElem?
  intro i
  by_cases h : i < n
  · rw [TR_at n 0 n m i h, if_neg (by omega), if_neg (by omega)]
    simp [h]
  · rw [List.getElem?_eq_none (by rw [TR_len]; omega), List.getElem?_eq_none (by simp; omega)]
theorem TR_front (n a b d : Nat) (h : a < b) (hb : b ≤ n) : (TR n a b d).set a (a : Int) = TR n (a + 1) b d := by
  apply List.ext_getElem?
  intro i
  rw [List.getElem?_set]
  by_cases h2 : i < n
  · rw [TR_at n (a + 1) b d i h2]
    by_cases e : a = i
    · subst e
      rw [if_pos rfl, if_pos (by rw [TR_len]; omega), if_pos (by omega)]
    · rw [if_neg e, TR_at n a b d i h2]
      by_cases h3 : i < a
      · rw [if_pos h3, if_pos (by omega)]
      · rw [if_neg h3, if_neg (show ¬ i < a + 1 by omega)]
  · rw [if_neg (by omega), List.getElem?_eq_none (by rw [TR_len]; omega), List.getElem?_eq_none (by rw [TR_len]; omega)]
theorem TR_back (n a b d : Nat) (h : a < b + 1) (hb : b + 1 ≤ n) (hd : 0 < d) : (TR n a (b + 1) d).set b ((d - 1 : Nat) : Int) = TR n a b (d - 1) := by
  apply List.ext_getElem?
  intro i
  rw [List.getElem?_set]
  by_cases h2 : i < n
  · rw [TR_at n a b (d - 1) i h2]
    by_cases e : b = i
    · subst e
      rw [if_pos rfl, if_pos (by rw [TR_len]; omega), if_neg (by omega), if_pos (by omega)]
      congr 2; omega
    · rw [if_neg e, TR_at n a (b + 1) d i h2]
      by_cases h3 : i < a
      · rw [if_pos h3, if_pos h3]
      · rw [if_neg h3, if_neg h3]
        by_cases h4 : b ≤ i
        · rw [if_pos h4, if_pos (by omega)]; congr 2; omega
        · rw [if_neg h4, if_neg (by omega)]
  · rw [if_neg (by omega), List.getElem?_eq_none (by rw [TR_len]; omega), List.getElem?_eq_none (by rw [TR_len]; omega)]
theorem none_l (n : Nat) (hn : n ≤ 1000000) : ∀ r i : Nat, i + r = n → Ev (fun k => redlineref07_None.l0 k (n : Int) (List.replicate i (-1) ++ List.replicate r 0) (i : Int)) (List.replicate n (-1)) := by
  intro r
  induction r with
  | zero =>
    intro i hi
    apply Ev_unfold
    have e : i = n := by omega
    subst e
    simp only [redlineref07_None.l0, if_neg (show ¬ (i : Int) < (i : Int) by omega), List.replicate_zero, List.append_nil]
    exact Ev.now _
  | succ r ih =>
    intro i hi
    apply Ev_unfold
    have o1 : (i : Int) < (n : Int) := by omega
    have o2 : (0 : Int) ≤ (i : Int) := by omega
    have o3 : (i : Int) < ((List.replicate i (-1 : Int) ++ List.replicate (r + 1) 0).length : Int) := by rw [List.length_append, List.length_replicate, List.length_replicate]; omega
    have o4 : i < 4611686018427387904 := by omega
    have := ih (i + 1) (by omega)
    simp only [redlineref07_None.l0, if_pos o1, if_pos o2, if_pos o3, wadd i o4, Int.toNat_natCast]
    rw [set_done _ i r (-1) (by simp)]
    rw [List.replicate_succ', List.append_assoc] at this
    rw [List.append_assoc]
    exact this
theorem none_ref (n : Nat) (hn : n ≤ 1000000) : Ev (fun k => redlineref07_None.f k (n : Int)) (List.replicate n (-1)) := by
  unfold redlineref07_None.f
  simp only [if_pos (show (0 : Int) ≤ (n : Int) by omega), Int.toNat_natCast, if_pos (show n ≤ 35184372088832 by omega)]
  have := none_l n hn n 0 (by omega)
  simpa using this
theorem lay_at (c : Int) : ∀ (vs : List Int) (p : Nat) (T : List Int), p + vs.length ≤ T.length → (ls_lay c p vs T).length = T.length ∧ ∀ i, (ls_lay c p vs T)[i]? = if p ≤ i ∧ i < p + vs.length ∧ vs.getD (i - p) 0 ≥ 0 then some (wrap64 (c + vs.getD (i - p) 0)) else T[i]?
  | [], p, T, h => by
    refine ⟨rfl, fun i => ?_⟩
    simp only [List.length_nil, Nat.add_zero] at *
    rw [if_neg (by omega)]
    rfl
  | v :: vs, p, T, h => by
    simp only [List.length_cons] at *
    rw [ls_lay]
    have hT : (if v ≥ 0 then T.set p (wrap64 (c + v)) else T).length = T.length := by split <;> simp
    obtain ⟨h1, h2⟩ := lay_at c vs (p + 1) (if v ≥ 0 then T.set p (wrap64 (c + v)) else T) (by rw [hT]; omega)
    refine ⟨by rw [h1, hT], fun i => ?_⟩
    rw [h2 i]
    by_cases e : p = i
    · subst e
      rw [if_neg (by omega), Nat.sub_self, List.getD_cons_zero]
      by_cases hv : v ≥ 0
      · rw [if_pos hv, if_pos ⟨Nat.le_refl _, by omega, hv⟩, List.getElem?_set_self (by omega)]
      · rw [if_neg hv, if_neg (fun h => hv h.2.2)]
    · have hrest : (if v ≥ 0 then T.set p (wrap64 (c + v)) else T)[i]? = T[i]? := by
        split
        · rw [List.getElem?_set, if_neg e]
        · rfl
      rw [hrest]
      by_cases hi : p + 1 ≤ i
      · have e2 : (v :: vs).getD (i - p) 0 = vs.getD (i - (p + 1)) 0 := by rw [show i - p = (i - (p + 1)) + 1 from by omega, List.getD_cons_succ]
        rw [e2]
        by_cases hc : p + 1 ≤ i ∧ i < p + 1 + vs.length ∧ vs.getD (i - (p + 1)) 0 ≥ 0
        · rw [if_pos hc, if_pos (show p ≤ i ∧ i < p + (vs.length + 1) ∧ vs.getD (i - (p + 1)) 0 ≥ 0 from ⟨by omega, by omega, hc.2.2⟩)]
        · rw [if_neg hc, if_neg (show ¬ (p ≤ i ∧ i < p + (vs.length + 1) ∧ vs.getD (i - (p + 1)) 0 ≥ 0) from fun h => hc ⟨hi, by omega, h.2.2⟩)]
      · rw [if_neg (fun h => hi h.1), if_neg (fun h => by have := h.1; omega)]
theorem lay_KK (x y : List Int) (bound : Int) (a b d : Nat) (hab : a ≤ b) (hb : b ≤ x.length) (hs : x.length - b = y.length - d) :
    ls_lay (a : Int) a (mid x y bound a b d) (TR x.length a b d) = (List.range x.length).map (Kat x y bound a b d) := by
  have hml := mid_len x y bound a b d hb
  obtain ⟨h1, h2⟩ := lay_at (a : Int) (mid x y bound a b d) a (TR x.length a b d) (by rw [hml, TR_len]; omega)
  apply List.ext_getElem?
  intro i
  rw [h2 i]
  by_cases hi : i < x.length
  · rw [TR_at _ _ _ _ _ hi]
    rw [show ((List.range x.length).map (Kat x y bound a b d))[i]? = some (Kat x y bound a b d i) from by simp [hi]]
    unfold Kat
    by_cases e1 : i < a
    · rw [if_neg (by omega), if_pos e1, if_pos e1]
    · by_cases e2 : b ≤ i
      · rw [if_neg (by omega), if_neg e1, if_pos e2, if_neg e1, if_pos e2]
      · by_cases e3 : (mid x y bound a b d).getD (i - a) 0 ≥ 0
        · rw [if_pos ⟨by omega, by omega, e3⟩, if_neg e1, if_neg e2, if_pos e3]
        · rw [if_neg (fun h => e3 h.2.2), if_neg e1, if_neg e2, if_neg e1, if_neg e2, if_neg e3]
  · rw [if_neg (by omega), List.getElem?_eq_none (by rw [TR_len]; omega), List.getElem?_eq_none (by simp; omega)]
section
variable (x y : List Int) (hx : x.length ≤ 4096) (hy : y.length ≤ 4096) (bound : Int)
include hx hy
theorem trim_back (a : Nat) : ∀ (b d : Nat), a ≤ b → b ≤ x.length → a ≤ d → d ≤ y.length → x.length - b = y.length - d →
    Ev (fun k => redlineref07_Trim.l1 k (TR x.length a b d) x y (a : Int) (b : Int) (a : Int) (d : Int)) ((a : Int), ((sb x y a b d).1 : Int), (a : Int), ((sb x y a b d).2 : Int), TR x.length a (sb x y a b d).1 (sb x y a b d).2) := by
  intro b
  induction b with
  | zero =>
    intro d h1 h2 h3 h4 h5
    apply Ev_unfold
    simp only [redlineref07_Trim.l1, if_neg (show ¬ (a : Int) < ((0 : Nat) : Int) by omega)]
    exact Ev.now _
  | succ b ih =>
    intro d h1 h2 h3 h4 h5
    apply Ev_unfold
    rw [sb]
    by_cases ha : a < b + 1
    · by_cases hd : a < d
      · have e1 : wrap64 (((b + 1 : Nat) : Int) - 1) = (b : Int) := by rw [w64 _ (by omega)]; omega
        have e2 : wrap64 ((d : Int) - 1) = ((d - 1 : Nat) : Int) := by rw [w64 _ (by omega)]; omega
        simp only [redlineref07_Trim.l1, if_pos (show (a : Int) < ((b + 1 : Nat) : Int) by omega), if_pos (show (a : Int) < (d : Int) by omega), e1, e2, if_pos (show (0 : Int) ≤ (b : Int) by omega), if_pos (show (b : Int) < (x.length : Int) by omega), if_pos (show (0 : Int) ≤ ((d - 1 : Nat) : Int) by omega), if_pos (show ((d - 1 : Nat) : Int) < (y.length : Int) by omega), rd_nat, TR_len, Int.toNat_natCast]
        by_cases hc : x.getD b 0 = y.getD (d - 1) 0
        · simp only [if_pos hc, if_pos (show a < b + 1 ∧ a < d ∧ x.getD b 0 = y.getD (d - 1) 0 from ⟨ha, hd, hc⟩)]
          rw [TR_back x.length a b d ha h2 (by omega)]
          exact ih (d - 1) (by omega) (by omega) (by omega) (by omega) (by omega)
        · simp only [if_neg hc, if_neg (show ¬ (a < b + 1 ∧ a < d ∧ x.getD b 0 = y.getD (d - 1) 0) from fun h => hc h.2.2)]
          exact Ev.now _
      · simp only [redlineref07_Trim.l1, if_pos (show (a : Int) < ((b + 1 : Nat) : Int) by omega), if_neg (show ¬ (a : Int) < (d : Int) by omega), if_neg (show ¬ (a < b + 1 ∧ a < d ∧ x.getD b 0 = y.getD (d - 1) 0) from fun h => hd h.2.1)]
        exact Ev.now _
    · simp only [redlineref07_Trim.l1, if_neg (show ¬ (a : Int) < ((b + 1 : Nat) : Int) by omega), if_neg (show ¬ (a < b + 1 ∧ a < d ∧ x.getD b 0 = y.getD (d - 1) 0) from fun h => ha h.1)]
      exact Ev.now _
theorem trim_front : ∀ r i, cp x y - i = r → i ≤ cp x y →
    Ev (fun k => redlineref07_Trim.l0 k (TR x.length i x.length y.length) x y (i : Int) (x.length : Int) (i : Int) (y.length : Int)) (((cp x y : Nat) : Int), ((sb x y (cp x y) x.length y.length).1 : Int), ((cp x y : Nat) : Int), ((sb x y (cp x y) x.length y.length).2 : Int), TR x.length (cp x y) (sb x y (cp x y) x.length y.length).1 (sb x y (cp x y) x.length y.length).2) := by
  have hc := cp_le x y
  have hend : Ev (fun k => redlineref07_Trim.j1 k (TR x.length (cp x y) x.length y.length) x y ((cp x y : Nat) : Int) (x.length : Int) ((cp x y : Nat) : Int) (y.length : Int)) (((cp x y : Nat) : Int), ((sb x y (cp x y) x.length y.length).1 : Int), ((cp x y : Nat) : Int), ((sb x y (cp x y) x.length y.length).2 : Int), TR x.length (cp x y) (sb x y (cp x y) x.length y.length).1 (sb x y (cp x y) x.length y.length).2) := by
    apply Ev_unfold
    simp only [redlineref07_Trim.j1]
    exact trim_back x y hx hy (cp x y) x.length y.length hc.1 (Nat.le_refl _) hc.2 (Nat.le_refl _) (by omega)
  intro r
  induction r with
  | zero =>
    intro i hr hi
    have e : i = cp x y := by omega
    subst e
    apply Ev_unfold
    by_cases h1 : cp x y < x.length
    · by_cases h2 : cp x y < y.length
      · have hne := cp_stop x y h1 h2
        simp only [redlineref07_Trim.l0, if_pos (show ((cp x y : Nat) : Int) < (x.length : Int) by omega), if_pos (show ((cp x y : Nat) : Int) < (y.length : Int) by omega), if_pos (show (0 : Int) ≤ ((cp x y : Nat) : Int) by omega), rd_nat, if_neg hne]
        exact hend
      · simp only [redlineref07_Trim.l0, if_pos (show ((cp x y : Nat) : Int) < (x.length : Int) by omega), if_neg (show ¬ ((cp x y : Nat) : Int) < (y.length : Int) by omega)]
        exact hend
    · simp only [redlineref07_Trim.l0, if_neg (show ¬ ((cp x y : Nat) : Int) < (x.length : Int) by omega)]
      exact hend
  | succ r ih =>
    intro i hr hi
    have o1 : (i : Int) < (x.length : Int) := by omega
    have o2 : (i : Int) < (y.length : Int) := by omega
    have o3 : (0 : Int) ≤ (i : Int) := by omega
    have o4 : i < 4611686018427387904 := by omega
    apply Ev_unfold
    simp only [redlineref07_Trim.l0, if_pos o1, if_pos o2, if_pos o3, rd_nat, if_pos (cp_same x y i (by omega)), wadd i o4, TR_len, Int.toNat_natCast]
    rw [TR_front x.length i x.length y.length (by omega) (Nat.le_refl _)]
    exact ih (i + 1) (by omega) (by omega)
theorem least_ref (a b d : Nat) (hab : a ≤ b) (hb : b ≤ x.length) (had : a ≤ d) (hd : d ≤ y.length) (T : List Int) (hT : T.length = x.length) :
    Ev (fun k => redlineref07_Least.f k T x y (a : Int) (b : Int) (a : Int) (d : Int)) (ls_lay (a : Int) a (kp ((x.take b).drop a) ((y.take d).drop a) 0) T) := by
  unfold redlineref07_Least.f
  rw [show (fun k => if (0 ≤ (a : Int) ∧ (a : Int) ≤ (b : Int) ∧ (b : Int) ≤ (x.length : Int) ∧ 0 ≤ (a : Int) ∧ (a : Int) ≤ (d : Int) ∧ (d : Int) ≤ (y.length : Int)) ∧ (b : Int) ≤ (T.length : Int) ∧ (b : Int) ≤ 1000000 then
      (redlineref06_Keeps.f k ((x.take (b : Int).toNat).drop (a : Int).toNat) ((y.take (d : Int).toNat).drop (a : Int).toNat)).bind fun t => if t.length ≤ (b : Int).toNat - (a : Int).toNat then some (ls_lay (a : Int) (a : Int).toNat t T) else none
    else none) = fun k => (redlineref06_Keeps.f k ((x.take b).drop a) ((y.take d).drop a)).bind fun t => if t.length ≤ b - a then some (ls_lay (a : Int) a t T) else none from by
      funext k
      rw [if_pos (by omega)]
      simp only [Int.toNat_natCast]]
  have lX : ((x.take b).drop a).length = b - a := by rw [List.length_drop, List.length_take]; omega
  have lY : ((y.take d).drop a).length = d - a := by rw [List.length_drop, List.length_take]; omega
  refine Ev.bind (keeps_f _ _ (by omega) (by omega)) ?_
  simp only [if_pos (show (kp ((x.take b).drop a) ((y.take d).drop a) 0).length ≤ b - a by rw [kp_len]; omega)]
  exact Ev.now _
theorem greedy_lay (a b d : Nat) (hab : a ≤ b) (hb : b ≤ x.length) (had : a ≤ d) (hd : d ≤ y.length) (m : List Int) (hm : m.length = b - a) : ∀ (r i : Nat) (T : List Int), i + r = m.length → T.length = x.length →
    Ev (fun k => redlineref09_Diff.l0 k y T m (i : Int) (a : Int) (b : Int) (a : Int) (d : Int)) (make (ls_lay (a : Int) (a + i) (m.drop i) T) y.length) := by
  intro r
  induction r with
  | zero =>
    intro i T hi hT
    apply Ev_unfold
    simp only [redlineref09_Diff.l0, if_neg (show ¬ (i : Int) < (m.length : Int) by omega)]
    rw [List.drop_eq_nil_of_le (by omega)]
    simp only [ls_lay]
    refine Ev.bind (make_ref T y.length (by omega) (by omega)) ?_
    exact Ev.now _
  | succ r ih =>
    intro i T hi hT
    apply Ev_unfold
    have o1 : (i : Int) < (m.length : Int) := by omega
    have o2 : (0 : Int) ≤ (i : Int) := by omega
    have o3 : (0 : Int) ≤ ((a + i : Nat) : Int) := by omega
    have o4 : ((a + i : Nat) : Int) < (T.length : Int) := by omega
    have o5 : i < m.length := by omega
    have o6 : i + 1 + r = m.length := by omega
    have o7 : i < 4611686018427387904 := by omega
    have o8 : -9223372036854775808 ≤ (a : Int) + (i : Int) ∧ (a : Int) + (i : Int) ≤ 9223372036854775807 := by omega
    have hw := wadd i o7
    have hw2 : wrap64 ((a : Int) + (i : Int)) = ((a + i : Nat) : Int) := (w64 _ o8).trans (Int.natCast_add a i).symm
    simp only [redlineref09_Diff.l0, if_pos o1, if_pos o2, hw, hw2, if_pos o3, if_pos o4, rd_nat, Int.toNat_natCast]
    rw [drop_cons m i o5, ls_lay]
    by_cases hv : m.getD i 0 ≥ 0
    · simp only [if_pos hv]
      exact ih (i + 1) _ o6 (by rw [List.length_set]; exact hT)
    · simp only [if_neg hv]
      exact ih (i + 1) T o6 hT
theorem speedy_ref : Ev (fun k => redlineref09_Diff.f k x y bound) (make (KK x y bound) y.length) := by
  have hc := cp_le x y
  obtain ⟨s1, s2, s3, s4, s5⟩ := sb_le x y (cp x y) x.length y.length hc.1 hc.2
  unfold redlineref09_Diff.f
  simp only [if_neg (show ¬ (x.length : Int) > 4096 by omega), decide_eq_false (show ¬ (y.length : Int) > 4096 by omega)]
  apply Ev_unfold
  simp only [redlineref09_Diff.j0, Bool.false_eq_true, if_false]
  refine Ev.bind (none_ref x.length (by omega)) ?_
  have ht := trim_front x y hx hy (cp x y) 0 (by omega) (by omega)
  rw [TR_none] at ht
  refine Ev.bind (g := fun k => redlineref07_Trim.f k (List.replicate x.length (-1)) x y 0 (x.length : Int) 0 (y.length : Int)) ht ?_
  have hKK : KK x y bound = (List.range x.length).map (Kat x y bound (cp x y) (sb x y (cp x y) x.length y.length).1 (sb x y (cp x y) x.length y.length).2) := rfl
  have hlay := lay_KK x y bound (cp x y) (sb x y (cp x y) x.length y.length).1 (sb x y (cp x y) x.length y.length).2 s1 s2 (by omega)
  rw [← hKK] at hlay
  generalize (sb x y (cp x y) x.length y.length).1 = b at *
  generalize (sb x y (cp x y) x.length y.length).2 = d at *
  generalize cp x y = a at *
  have o1 : (0 : Int) ≤ (a : Int) := by omega
  have o2 : (a : Int) ≤ (b : Int) := by omega
  have o3 : (b : Int) ≤ (x.length : Int) := by omega
  have o4 : (a : Int) ≤ (d : Int) := by omega
  have o5 : (d : Int) ≤ (y.length : Int) := by omega
  simp only [mul_w a b d s1 s3 (by omega) (by omega)]
  by_cases h : (((b - a) * (d - a) : Nat) : Int) ≤ mx 0 bound
  · have hm : mid x y bound a b d = kp ((x.take b).drop a) ((y.take d).drop a) 0 := by unfold mid; rw [if_pos h]
    rw [hm] at hlay
    simp only [if_pos h]
    refine Ev.bind (least_ref x y hx hy a b d s1 s2 s3 s4 _ (TR_len _ _ _ _)) ?_
    rw [hlay]
    refine Ev.bind (make_ref (KK x y bound) y.length (by rw [KK_len]; omega) (by omega)) ?_
    exact Ev.now _
  · have hm : mid x y bound a b d = QG.gr ((y.take d).drop a) 64 ((x.take b).drop a) 0 := by unfold mid; rw [if_neg h]
    rw [hm] at hlay
    simp only [if_neg h, if_pos o1, if_pos o2, if_pos o3, if_pos o4, if_pos o5, Int.toNat_natCast]
    have lX : ((x.take b).drop a).length = b - a := by rw [List.length_drop, List.length_take]; omega
    have lY : ((y.take d).drop a).length = d - a := by rw [List.length_drop, List.length_take]; omega
    refine Ev.bind (QG.greedy_ref _ _ 64 (by omega) (by omega)) ?_
    have := greedy_lay x y hx hy a b d s1 s2 s3 s4 (QG.gr ((y.take d).drop a) 64 ((x.take b).drop a) 0) (by rw [QG.gr_length]; omega) _ 0 (TR x.length a b d) (Nat.zero_add _) (TR_len _ _ _ _)
    rw [List.drop_zero, Nat.add_zero, hlay] at this
    exact this
end
end Go.Proofs.Ytdcldoembdifpaa.Q
