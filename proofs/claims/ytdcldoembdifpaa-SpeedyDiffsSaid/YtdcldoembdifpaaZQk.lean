/- What the program's speedy.Diff keeps, of any two texts and any bound. -/
import Derived.Test.YtdcldoembdifpaaZQc
import Derived.Test.YtdcldoembdifpaaZQg
import Derived.Test.YtdcldoembdifpaaZQh
import Derived.Test.YtdcldoembdifpaaZQj
import Derived.Test.YtdcldoembdifpaaZXx42
namespace Go.Proofs.Ytdcldoembdifpaa.Q
set_option linter.unusedVariables false
set_option linter.unusedSimpArgs false
open Go.RowKit Go.Proofs.Ytdcldoembdifpaa.X Go.Proofs.YtdcldoembdifpaaW.PrintWords Go.Proofs.YtdcldoembdifpaaW.PrintLast Go.Proofs.YtdcldoembdifpaaW.PrintMore
/-- where the texts part, from their ends on -/
def sb (x y : List Int) (a : Nat) : Nat → Nat → Nat × Nat
  | 0, d => (0, d)
  | b + 1, d => if a < b + 1 ∧ a < d ∧ x.getD b 0 = y.getD (d - 1) 0 then sb x y a b (d - 1) else (b + 1, d)
theorem sb_le (x y : List Int) (a : Nat) : ∀ b d, a ≤ b → a ≤ d → a ≤ (sb x y a b d).1 ∧ (sb x y a b d).1 ≤ b ∧ a ≤ (sb x y a b d).2 ∧ (sb x y a b d).2 ≤ d ∧ b - (sb x y a b d).1 = d - (sb x y a b d).2
  | 0, d, h1, h2 => by rw [sb]; exact ⟨h1, Nat.le_refl _, h2, Nat.le_refl _, by omega⟩
  | b + 1, d, h1, h2 => by
    rw [sb]
    by_cases h : a < b + 1 ∧ a < d ∧ x.getD b 0 = y.getD (d - 1) 0
    · rw [if_pos h]
      have := sb_le x y a b (d - 1) (by omega) (by omega)
      omega
    · rw [if_neg h]; exact ⟨h1, Nat.le_refl _, h2, Nat.le_refl _, by omega⟩
def mid (x y : List Int) (bound : Int) (a b d : Nat) : List Int :=
  if (((b - a) * (d - a) : Nat) : Int) ≤ mx 0 bound then kp ((x.take b).drop a) ((y.take d).drop a) 0 else QG.gr ((y.take d).drop a) 64 ((x.take b).drop a) 0
def Kat (x y : List Int) (bound : Int) (a b d i : Nat) : Int :=
  if i < a then (i : Int) else if b ≤ i then ((d + i - b : Nat) : Int) else if (mid x y bound a b d).getD (i - a) 0 ≥ 0 then wrap64 ((a : Int) + (mid x y bound a b d).getD (i - a) 0) else -1
/-- what is kept -/
def KK (x y : List Int) (bound : Int) : List Int :=
  let a := cp x y; let s := sb x y a x.length y.length; (List.range x.length).map (Kat x y bound a s.1 s.2)
theorem KK_len (x y : List Int) (bound : Int) : (KK x y bound).length = x.length := by simp [KK]
theorem mid_len (x y : List Int) (bound : Int) (a b d : Nat) (hb : b ≤ x.length) : (mid x y bound a b d).length = b - a := by
  unfold mid
  split
  · rw [kp_len, List.length_drop, List.length_take]; omega
  · rw [QG.gr_length, List.length_drop, List.length_take]; omega
theorem set_next (done : List Int) (i n : Nat) (v : Int) (h : done.length = i) : (done ++ List.replicate (n + 1) (-1)).set i v = (done ++ [v]) ++ List.replicate n (-1) := by
  subst h; rw [List.replicate_succ, set_append_cons]; simp
theorem keep_next (done : List Int) (n : Nat) : done ++ List.replicate (n + 1) (-1 : Int) = (done ++ [-1]) ++ List.replicate n (-1) := by
  rw [List.replicate_succ]; simp
section
variable (x y : List Int) (hx : x.length ≤ 4096) (hy : y.length ≤ 4096) (bound : Int)
include hx hy
theorem sp_lay (a b d : Nat) (hab : a ≤ b) (hb : b ≤ x.length) (had : a ≤ d) (hd : d ≤ y.length) (hs : x.length - b = y.length - d) : ∀ (r i : Nat) (done : List Int), i + r = x.length → done = (List.range i).map (Kat x y bound a b d) →
    Ev (fun k => speedy_Diff.l2 k y (a : Int) (b : Int) (a : Int) (d : Int) (mid x y bound a b d) (done ++ List.replicate r (-1)) (x.length : Int) (i : Int)) (make ((List.range x.length).map (Kat x y bound a b d)) y.length) := by
  intro r
  induction r with
  | zero =>
    intro i done hi hdone
    have e : i = x.length := by omega
    subst e
    apply Ev_unfold
    simp only [speedy_Diff.l2, if_neg (show ¬ (x.length : Int) < (x.length : Int) by omega), List.replicate_zero, List.append_nil]
    rw [hdone]
    rw [make_prog _ _ (by simp; omega) (by omega)]
    simp only [bsome]
    exact Ev.now _
  | succ r ih =>
    intro i done hi hdone
    have hl : done.length = i := by rw [hdone]; simp
    have hn : (done ++ [Kat x y bound a b d i]) = (List.range (i + 1)).map (Kat x y bound a b d) := by rw [List.range_succ, List.map_append, hdone]; rfl
    have hll : (i : Int) < ((done ++ List.replicate (r + 1) (-1 : Int)).length : Int) := by
      rw [List.length_append, List.length_replicate, hl]; omega
    have hml := mid_len x y bound a b d hb
    clear hdone
    have ih' := ih (i + 1)
    clear ih
    have q1 : (i : Int) < (x.length : Int) := by omega
    have q0 : (0 : Int) ≤ (i : Int) := by omega
    have q3 : i + 1 + r = x.length := by omega
    have o3 : i < 4611686018427387904 := by omega
    apply Ev_unfold
    by_cases h1 : i < a
    · have q2 : (i : Int) < (a : Int) := by omega
      have hk : Kat x y bound a b d i = (i : Int) := by unfold Kat; rw [if_pos h1]
      simp only [speedy_Diff.l2, if_pos q1, wadd i o3, if_pos q0, if_pos hll, Int.toNat_natCast, if_pos q2]
      rw [set_next done i r _ hl, ← hk]
      exact ih' _ q3 hn
    · have q2 : ¬ (i : Int) < (a : Int) := by omega
      by_cases h2 : b ≤ i
      · have q4 : (i : Int) ≥ (b : Int) := by omega
        have hk : Kat x y bound a b d i = ((d + i - b : Nat) : Int) := by unfold Kat; rw [if_neg h1, if_pos h2]
        have o1 : b ≤ d + i := by omega
        have o2 : d + i < 4611686018427387904 := by omega
        have o4 : -9223372036854775808 ≤ (d : Int) + (i : Int) ∧ (d : Int) + (i : Int) ≤ 9223372036854775807 := by omega
        have w1 : wrap64 ((d : Int) + (i : Int)) = ((d + i : Nat) : Int) := (w64 _ o4).trans (Int.natCast_add d i).symm
        have w2 := wsub (d + i) b o1 o2
        have w3 := wadd i o3
        simp only [speedy_Diff.l2, if_pos q1, w3, if_pos q0, if_pos hll, Int.toNat_natCast, if_neg q2, if_pos q4, w1, w2]
        rw [set_next done i r _ hl, ← hk]
        exact ih' _ q3 hn
      · have q4 : ¬ (i : Int) ≥ (b : Int) := by omega
        have q5 : (0 : Int) ≤ ((i - a : Nat) : Int) := by omega
        have q6 : ((i - a : Nat) : Int) < ((mid x y bound a b d).length : Int) := by omega
        have o1 : a ≤ i := by omega
        have w2 := wsub i a o1 o3
        have w3 := wadd i o3
        by_cases h3 : (mid x y bound a b d).getD (i - a) 0 ≥ 0
        · have hk : Kat x y bound a b d i = wrap64 ((a : Int) + (mid x y bound a b d).getD (i - a) 0) := by unfold Kat; rw [if_neg h1, if_neg h2, if_pos h3]
          simp only [speedy_Diff.l2, if_pos q1, w3, if_pos q0, if_pos hll, Int.toNat_natCast, if_neg q2, if_neg q4, w2, if_pos q5, if_pos q6, rd_nat, if_pos h3]
          rw [set_next done i r _ hl, ← hk]
          exact ih' _ q3 hn
        · have hk : Kat x y bound a b d i = -1 := by unfold Kat; rw [if_neg h1, if_neg h2, if_neg h3]
          simp only [speedy_Diff.l2, if_pos q1, w3, if_pos q0, if_pos hll, Int.toNat_natCast, if_neg q2, if_neg q4, w2, if_pos q5, if_pos q6, rd_nat, if_neg h3]
          rw [keep_next]
          have h := ih' _ q3 hn
          rw [hk] at h
          exact h
omit hx hy in
theorem mul_w (a b d : Nat) (hab : a ≤ b) (had : a ≤ d) (hb : b ≤ 4096) (hd : d ≤ 4096) : wrap64 (wrap64 ((b : Int) - (a : Int)) * wrap64 ((d : Int) - (a : Int))) = (((b - a) * (d - a) : Nat) : Int) := by
  have h2 : (b - a) * (d - a) ≤ 4096 * 4096 := Nat.mul_le_mul (by omega) (by omega)
  rw [wsub b a hab (by omega), wsub d a had (by omega), ← Int.natCast_mul, w64 _ (by omega)]
theorem sp_mid (a b d : Nat) (hab : a ≤ b) (hb : b ≤ x.length) (had : a ≤ d) (hd : d ≤ y.length) (hs : x.length - b = y.length - d) :
    Ev (fun k => speedy_Diff.j4 k x y bound (a : Int) (b : Int) (a : Int) (d : Int)) (make ((List.range x.length).map (Kat x y bound a b d)) y.length) := by
  have hj5 : Ev (fun k => speedy_Diff.j5 k x y (a : Int) (b : Int) (a : Int) (d : Int) (mid x y bound a b d)) (make ((List.range x.length).map (Kat x y bound a b d)) y.length) := by
    apply Ev_unfold
    have e : slices_Repeat_int_int.f [-1] (x.length : Int) = some (List.replicate x.length (-1)) := by
      unfold slices_Repeat_int_int.f
      rw [if_pos ⟨rfl, by omega, by omega⟩]
      simp
    simp only [speedy_Diff.j5, e, bsome, List.length_replicate]
    have := sp_lay x y hx hy bound a b d hab hb had hd hs x.length 0 [] (by omega) rfl
    simpa using this
  apply Ev_unfold
  have o1 : (0 : Int) ≤ (a : Int) := by omega
  have o2 : (a : Int) ≤ (b : Int) := by omega
  have o3 : (b : Int) ≤ (x.length : Int) := by omega
  have o4 : (a : Int) ≤ (d : Int) := by omega
  have o5 : (d : Int) ≤ (y.length : Int) := by omega
  have o6 : b < 4611686018427387904 := by omega
  have o7 : d < 4611686018427387904 := by omega
  simp only [speedy_Diff.j4, mul_w a b d hab had (by omega) (by omega), if_pos o1, if_pos o2, if_pos o3, if_pos o4, if_pos o5, Int.toNat_natCast]
  obtain ⟨X, hX⟩ : ∃ X, (x.take b).drop a = X := ⟨_, rfl⟩
  obtain ⟨Y, hY⟩ : ∃ Y, (y.take d).drop a = Y := ⟨_, rfl⟩
  have lX : X.length = b - a := by rw [← hX, List.length_drop, List.length_take]; omega
  have lY : Y.length = d - a := by rw [← hY, List.length_drop, List.length_take]; omega
  by_cases h : (((b - a) * (d - a) : Nat) : Int) ≤ mx 0 bound
  · have hm : mid x y bound a b d = kp X Y 0 := by unfold mid; rw [if_pos h, hX, hY]
    rw [hm] at hj5
    simp only [if_pos h, hX, hY]
    refine Ev.bind (diff_prog X Y (by omega) (by omega)) ?_
    rw [make_kp]
    have hk := keep_mk (kp X Y 0) Y.length (by rw [kp_len]; omega) (by omega) (kp_ok _ X Y 0 (-1) (by omega) (by omega) (by omega))
    rw [kp_len] at hk
    rw [wsub b a hab o6, wsub d a had o7, ← lX, ← lY]
    refine Ev.bind hk ?_
    exact hj5
  · have hm : mid x y bound a b d = QG.gr Y 64 X 0 := by unfold mid; rw [if_neg h, hX, hY]
    rw [hm] at hj5
    simp only [if_neg h, hX, hY]
    exact Ev.bind (QG.greedy_prog X Y 64 (by omega) (by omega)) hj5
theorem sp_back (a : Nat) : ∀ (b d : Nat), a ≤ b → b ≤ x.length → a ≤ d → d ≤ y.length → x.length - b = y.length - d →
    Ev (fun k => speedy_Diff.l1 k x y bound (a : Int) (b : Int) (a : Int) (d : Int)) (make ((List.range x.length).map (Kat x y bound a (sb x y a b d).1 (sb x y a b d).2)) y.length) := by
  intro b
  induction b with
  | zero =>
    intro d h1 h2 h3 h4 h5
    apply Ev_unfold
    simp only [speedy_Diff.l1, if_neg (show ¬ (a : Int) < ((0 : Nat) : Int) by omega)]
    exact sp_mid x y hx hy bound a 0 d h1 h2 h3 h4 h5
  | succ b ih =>
    intro d h1 h2 h3 h4 h5
    apply Ev_unfold
    rw [sb]
    by_cases ha : a < b + 1
    · by_cases hd : a < d
      · have e1 : wrap64 (((b + 1 : Nat) : Int) - 1) = (b : Int) := by rw [w64 _ (by omega)]; omega
        have e2 : wrap64 ((d : Int) - 1) = ((d - 1 : Nat) : Int) := by rw [w64 _ (by omega)]; omega
        simp only [speedy_Diff.l1, if_pos (show (a : Int) < ((b + 1 : Nat) : Int) by omega), if_pos (show (a : Int) < (d : Int) by omega), e1, e2, if_pos (show (0 : Int) ≤ (b : Int) by omega), if_pos (show (b : Int) < (x.length : Int) by omega), if_pos (show (0 : Int) ≤ ((d - 1 : Nat) : Int) by omega), if_pos (show ((d - 1 : Nat) : Int) < (y.length : Int) by omega), rd_nat]
        by_cases hc : x.getD b 0 = y.getD (d - 1) 0
        · simp only [if_pos hc, if_pos (show a < b + 1 ∧ a < d ∧ x.getD b 0 = y.getD (d - 1) 0 from ⟨ha, hd, hc⟩)]
          exact ih (d - 1) (by omega) (by omega) (by omega) (by omega) (by omega)
        · simp only [if_neg hc, if_neg (show ¬ (a < b + 1 ∧ a < d ∧ x.getD b 0 = y.getD (d - 1) 0) from fun h => hc h.2.2)]
          exact sp_mid x y hx hy bound a (b + 1) d h1 h2 h3 h4 h5
      · simp only [speedy_Diff.l1, if_pos (show (a : Int) < ((b + 1 : Nat) : Int) by omega), if_neg (show ¬ (a : Int) < (d : Int) by omega), if_neg (show ¬ (a < b + 1 ∧ a < d ∧ x.getD b 0 = y.getD (d - 1) 0) from fun h => hd h.2.1)]
        exact sp_mid x y hx hy bound a (b + 1) d h1 h2 h3 h4 h5
    · simp only [speedy_Diff.l1, if_neg (show ¬ (a : Int) < ((b + 1 : Nat) : Int) by omega), if_neg (show ¬ (a < b + 1 ∧ a < d ∧ x.getD b 0 = y.getD (d - 1) 0) from fun h => ha h.1)]
      exact sp_mid x y hx hy bound a (b + 1) d h1 h2 h3 h4 h5
theorem sp_front (H : x.length - x.length = y.length - y.length) : ∀ r i, cp x y - i = r → i ≤ cp x y →
    Ev (fun k => speedy_Diff.l0 k x y bound (i : Int) (x.length : Int) (i : Int) (y.length : Int)) (make (KK x y bound) y.length) := by
  have hc := cp_le x y
  have hend : Ev (fun k => speedy_Diff.j2 k x y bound ((cp x y : Nat) : Int) (x.length : Int) ((cp x y : Nat) : Int) (y.length : Int)) (make (KK x y bound) y.length) := by
    apply Ev_unfold
    simp only [speedy_Diff.j2]
    exact sp_back x y hx hy bound (cp x y) x.length y.length hc.1 (Nat.le_refl _) hc.2 (Nat.le_refl _) (by omega)
  intro r
  induction r with
  | zero =>
    intro i hr hi
    have e : i = cp x y := by omega
    subst e
    apply Ev_unfold
    by_cases h1 : cp x y < x.length
    · by_cases h2 : cp x y < y.length
      · have hne := cp_stop x y h1 h2
        simp only [speedy_Diff.l0, if_pos (show ((cp x y : Nat) : Int) < (x.length : Int) by omega), if_pos (show ((cp x y : Nat) : Int) < (y.length : Int) by omega), if_pos (show (0 : Int) ≤ ((cp x y : Nat) : Int) by omega), rd_nat, if_neg hne]
        exact hend
      · simp only [speedy_Diff.l0, if_pos (show ((cp x y : Nat) : Int) < (x.length : Int) by omega), if_neg (show ¬ ((cp x y : Nat) : Int) < (y.length : Int) by omega)]
        exact hend
    · simp only [speedy_Diff.l0, if_neg (show ¬ ((cp x y : Nat) : Int) < (x.length : Int) by omega)]
      exact hend
  | succ r ih =>
    intro i hr hi
    have hw1 : wrap64 ((i : Int) + 1) = ((i + 1 : Nat) : Int) := wadd i (by omega)
    apply Ev_unfold
    simp only [speedy_Diff.l0, if_pos (show (i : Int) < (x.length : Int) by omega), if_pos (show (i : Int) < (y.length : Int) by omega), if_pos (show (0 : Int) ≤ (i : Int) by omega), rd_nat, if_pos (cp_same x y i (by omega)), hw1]
    exact ih (i + 1) (by omega) (by omega)
theorem speedy_prog : Ev (fun k => speedy_Diff.f k x y bound) (make (KK x y bound) y.length) := by
  unfold speedy_Diff.f
  simp only [if_neg (show ¬ (x.length : Int) > 4096 by omega), decide_eq_false (show ¬ (y.length : Int) > 4096 by omega)]
  apply Ev_unfold
  simp only [speedy_Diff.j0, Bool.false_eq_true, if_false]
  exact sp_front x y hx hy bound (by omega) (cp x y) 0 (by omega) (by omega)
end
theorem speedy_long (x y : List Int) (bound : Int) (h : ¬ (x.length ≤ 4096 ∧ y.length ≤ 4096)) : Ev (fun k => speedy_Diff.f k x y bound) ([], 9) := by
  have h2 : Ev (fun k => speedy_Diff.j0 k x y bound true) ([], 9) := by
    apply Ev_unfold
    simp only [speedy_Diff.j0, if_true]
    exact Ev.now _
  unfold speedy_Diff.f
  by_cases h1 : (x.length : Int) > 4096
  · simp only [if_pos h1]; exact h2
  · simp only [if_neg h1, decide_eq_true (show (y.length : Int) > 4096 by omega)]; exact h2
end Go.Proofs.Ytdcldoembdifpaa.Q
