/- Of what is kept: rows that rise and are the same in both texts; how many there can be. -/
import Derived.Test.YtdcldoembdifpaaQa
import Derived.Test.YtdcldoembdifpaaQi
import Derived.Test.YtdcldoembdifpaaQk
namespace Go.Proofs.Ytdcldoembdifpaa.Q
set_option linter.unusedVariables false
set_option linter.unusedSimpArgs false
open Go.RowKit Go.Proofs.Ytdcldoembdifpaa.X Go.Proofs.YtdcldoembdifpaaW.PrintWords Go.Proofs.YtdcldoembdifpaaW.PrintLast Go.Proofs.YtdcldoembdifpaaW.PrintMore

/-- the lines kept rise above last, and are the same in both -/
def Row (y : List Int) : List Int → List Int → Int → Prop
  | [], [], _ => True
  | c :: x, k :: ks, last => if k = -1 then Row y x ks last else last < k ∧ k < (y.length : Int) ∧ c = y.getD k.toNat 0 ∧ Row y x ks k
  | _, _, _ => False
def lastK : List Int → Int → Int
  | [], l => l
  | k :: ks, l => if k = -1 then lastK ks l else lastK ks k
theorem Row.len {y : List Int} : ∀ (x ks : List Int) (l : Int), Row y x ks l → ks.length = x.length
  | [], [], _, _ => rfl
  | c :: x, k :: ks, l, h => by
    unfold Row at h
    by_cases e : k = -1
    · rw [if_pos e] at h; simp [Row.len x ks l h]
    · rw [if_neg e] at h; simp [Row.len x ks k h.2.2.2]
  | [], _ :: _, _, h => by unfold Row at h; exact h.elim
  | _ :: _, [], _, h => by unfold Row at h; exact h.elim
theorem Row.mono {y : List Int} : ∀ (x ks : List Int) (l l' : Int), l' ≤ l → Row y x ks l → Row y x ks l'
  | [], [], _, _, _, h => trivial
  | c :: x, k :: ks, l, l', hl, h => by
    unfold Row at h ⊢
    by_cases e : k = -1
    · rw [if_pos e] at h ⊢; exact Row.mono x ks l l' hl h
    · rw [if_neg e] at h ⊢; exact ⟨by omega, h.2⟩
  | [], _ :: _, _, _, _, h => by unfold Row at h; exact h.elim
  | _ :: _, [], _, _, _, h => by unfold Row at h; exact h.elim
theorem Row.last_lt {y : List Int} : ∀ (x ks : List Int) (l b : Int), Row y x ks l → l < b → (y.length : Int) ≤ b → lastK ks l < b
  | [], [], l, b, _, h, _ => h
  | c :: x, k :: ks, l, b, h, h1, h2 => by
    unfold Row at h
    unfold lastK
    by_cases e : k = -1
    · rw [if_pos e] at h ⊢; exact Row.last_lt x ks l b h h1 h2
    · rw [if_neg e] at h ⊢; exact Row.last_lt x ks k b h.2.2.2 (by omega) h2
  | [], _ :: _, _, _, h, _, _ => by unfold Row at h; exact h.elim
  | _ :: _, [], _, _, h, _, _ => by unfold Row at h; exact h.elim
theorem Row.append {y : List Int} (x2 k2 : List Int) : ∀ (x1 k1 : List Int) (l : Int), Row y x1 k1 l → Row y x2 k2 (lastK k1 l) → Row y (x1 ++ x2) (k1 ++ k2) l
  | [], [], l, _, h => h
  | c :: x, k :: ks, l, h, h2 => by
    rw [List.cons_append, List.cons_append]
    unfold Row at h ⊢
    unfold lastK at h2
    by_cases e : k = -1
    · rw [if_pos e] at h h2 ⊢; exact Row.append x2 k2 x ks l h h2
    · rw [if_neg e] at h h2 ⊢; exact ⟨h.1, h.2.1, h.2.2.1, Row.append x2 k2 x ks k h.2.2.2 h2⟩
  | [], _ :: _, _, h, _ => by unfold Row at h; exact h.elim
  | _ :: _, [], _, h, _ => by unfold Row at h; exact h.elim
theorem Row.ok {y : List Int} : ∀ (x ks : List Int) (l : Int), Row y x ks l → okK y.length ks l = true
  | [], [], _, _ => rfl
  | c :: x, k :: ks, l, h => by
    unfold Row at h
    rw [okK]
    by_cases e : k = -1
    · rw [if_pos e] at h ⊢; exact Row.ok x ks l h
    · rw [if_neg e] at h ⊢; rw [if_neg (by omega), if_neg (by omega)]; exact Row.ok x ks k h.2.2.2
  | [], _ :: _, _, h => by unfold Row at h; exact h.elim
  | _ :: _, [], _, h => by unfold Row at h; exact h.elim
theorem Row.hon {y : List Int} : ∀ (x ks : List Int) (l : Int), -1 ≤ l → Row y x ks l → Hon x y ks
  | [], [], _, _, _ => fun i hi => by simp at hi
  | c :: x, k :: ks, l, hl, h => by
    unfold Row at h
    intro i hi h0
    cases i with
    | zero =>
      simp only [List.getD_cons_zero] at h0 ⊢
      rw [if_neg (by omega)] at h
      exact ⟨h.2.1, h.2.2.1⟩
    | succ i =>
      simp only [List.getD_cons_succ] at h0 ⊢
      by_cases e : k = -1
      · rw [if_pos e] at h; exact Row.hon x ks l hl h i (by simpa using hi) h0
      · rw [if_neg e] at h; exact Row.hon x ks k (by omega) h.2.2.2 i (by simpa using hi) h0
  | [], _ :: _, _, _, h => by unfold Row at h; exact h.elim
  | _ :: _, [], _, _, h => by unfold Row at h; exact h.elim
theorem drop_sub2 (x : List Int) {i j : Nat} (h : i ≤ j) : (x.drop j).Sublist (x.drop i) := by
  obtain ⟨d, rfl⟩ : ∃ d, j = i + d := ⟨j - i, by omega⟩
  rw [← List.drop_drop]
  exact List.drop_sublist _ _
theorem Row.most {y : List Int} : ∀ (x ks : List Int) (l : Int), -1 ≤ l → Row y x ks l → nn ks ≤ L x (y.drop (l + 1).toNat)
  | [], [], _, _, _ => by simp [nn]
  | c :: x, k :: ks, l, hl, h => by
    unfold Row at h
    by_cases e : k = -1
    · rw [if_pos e] at h
      rw [nn_cons_neg (by omega)]
      exact Nat.le_trans (Row.most x ks l hl h) (L_mono (List.sublist_cons_self _ _) (List.Sublist.refl _))
    · rw [if_neg e] at h
      obtain ⟨h1, h2, h3, h4⟩ := h
      rw [nn_cons_pos (by omega)]
      have ih := Row.most x ks k (by omega) h4
      have hk : k.toNat < y.length := by omega
      have e1 : L (c :: x) (y.drop k.toNat) = L x (y.drop (k + 1).toNat) + 1 := by
        rw [drop_cons y k.toNat hk, ← h3, L_cons, if_pos rfl, show (k + 1).toNat = k.toNat + 1 from by omega]
      have e2 : L (c :: x) (y.drop k.toNat) ≤ L (c :: x) (y.drop (l + 1).toNat) := L_mono (List.Sublist.refl _) (drop_sub2 y (by omega))
      omega
  | [], _ :: _, _, _, h => by unfold Row at h; exact h.elim
  | _ :: _, [], _, _, h => by unfold Row at h; exact h.elim

theorem nn_append (p q : List Int) : nn (p ++ q) = nn p + nn q := by simp [nn]
theorem nn_upto : ∀ (n : Nat) (j : Int), 0 ≤ j → nn (upto j n) = n
  | 0, _, _ => rfl
  | n + 1, j, h => by rw [upto, nn_cons_pos h, nn_upto n (j + 1) (by omega)]
theorem lastK_upto : ∀ (n : Nat) (j : Int), 0 ≤ j → lastK (upto j n) (j - 1) = j + n - 1
  | 0, j, _ => by simp [upto, lastK]
  | n + 1, j, h => by
    rw [upto, lastK, if_neg (by omega)]
    have := lastK_upto n (j + 1) (by omega)
    rw [show j + 1 - 1 = j from by omega] at this
    rw [this]; omega
/-- a piece that is the same in both -/
theorem row_same (y : List Int) : ∀ (u : List Int) (j : Nat), j + u.length ≤ y.length → (∀ i, i < u.length → u.getD i 0 = y.getD (j + i) 0) → Row y u (upto (j : Int) u.length) ((j : Int) - 1)
  | [], j, _, _ => trivial
  | c :: u, j, h1, h2 => by
    rw [List.length_cons, upto, Row, if_neg (by omega)]
    have h0 := h2 0 (by simp)
    simp only [List.getD_cons_zero, Nat.add_zero] at h0
    refine ⟨by omega, by simp at h1; omega, by rw [Int.toNat_natCast]; exact h0, ?_⟩
    have ih := row_same y u (j + 1) (by simp at h1; omega) (fun i hi => by
      have := h2 (i + 1) (by simp; omega)
      simp only [List.getD_cons_succ] at this
      rw [this, show j + (i + 1) = j + 1 + i from by omega])
    rw [show ((j + 1 : Nat) : Int) = (j : Int) + 1 from by omega, show (j : Int) + 1 - 1 = (j : Int) from by omega] at ih
    exact ih
theorem row_kp (Y : List Int) : ∀ (x y : List Int) (j : Nat), Y.drop j = y → Row Y x (kp x y (j : Int)) ((j : Int) - 1)
  | [], y, j, _ => by rw [kp_nil]; trivial
  | a :: x, [], j, h => by rw [kp, Row, if_pos rfl]; exact row_kp Y x [] j h
  | a :: x, b :: y, j, h => by
    have hj : j < Y.length := by
      have := congrArg List.length h
      simp at this
      omega
    have hb := drop_cons Y j hj
    rw [h] at hb
    injection hb with hb1 hb2
    have e1 : ((j + 1 : Nat) : Int) = (j : Int) + 1 := by omega
    rw [kp_cons]
    by_cases he : a = b
    · rw [if_pos he, Row, if_neg (by omega)]
      refine ⟨by omega, by omega, by rw [Int.toNat_natCast, ← hb1]; exact he, ?_⟩
      have ih := row_kp Y x y (j + 1) hb2.symm
      rw [e1, show (j : Int) + 1 - 1 = (j : Int) from by omega] at ih
      exact ih
    · rw [if_neg he]
      by_cases hg : L (a :: x) y ≤ L x (b :: y)
      · rw [if_pos hg, Row, if_pos rfl]
        exact row_kp Y x (b :: y) j h
      · rw [if_neg hg]
        have ih := row_kp Y (a :: x) y (j + 1) hb2.symm
        rw [e1] at ih
        exact Row.mono _ _ _ _ (by omega) ih
termination_by x y => x.length + y.length
theorem seek_eq (y : List Int) (c : Int) (m : Nat) : ∀ d j, m - j = d → ∀ p, QG.seek y c j m = some p → y.getD p 0 = c := by
  intro d
  induction d with
  | zero => intro j h p hp; rw [QG.seek, dif_neg (by omega)] at hp; cases hp
  | succ d ih =>
    intro j h p hp
    rw [QG.seek, dif_pos (by omega)] at hp
    split at hp
    · rename_i he; cases hp; exact he
    · exact ih (j + 1) (by omega) p hp
theorem row_gr (Y : List Int) (far : Int) : ∀ (x : List Int) (n : Nat), Row Y x (QG.gr Y far x n) ((n : Int) - 1)
  | [], n => trivial
  | c :: x, n => by
    rw [QG.gr]
    unfold QG.keep1
    cases hs : QG.seek Y c n (QG.lim Y far n) with
    | none =>
      dsimp only
      rw [Row, if_pos rfl]
      exact row_gr Y far x n
    | some p =>
      dsimp only
      have hb := QG.seek_bd Y c (QG.lim Y far n) _ n rfl p hs
      have he := seek_eq Y c (QG.lim Y far n) _ n rfl p hs
      have hl : QG.lim Y far n ≤ Y.length := by unfold QG.lim; omega
      rw [Row, if_neg (by omega)]
      refine ⟨by omega, by omega, by rw [Int.toNat_natCast]; exact he.symm, ?_⟩
      have ih := row_gr Y far x (p + 1)
      rw [show ((p + 1 : Nat) : Int) - 1 = (p : Int) from by omega] at ih
      exact ih
/-- a piece's row, as a row of the whole -/
def sh (a : Nat) (v : Int) : Int := if v ≥ 0 then wrap64 ((a : Int) + v) else -1
theorem row_shift (y Y : List Int) (a : Nat) (hy : y.length ≤ 1000000) (ha : a + Y.length ≤ y.length) (hYy : ∀ i, i < Y.length → Y.getD i 0 = y.getD (a + i) 0) : ∀ (x ks : List Int) (l : Int), -1 ≤ l → Row Y x ks l → Row y x (ks.map (sh a)) ((a : Int) + l) ∧ nn (ks.map (sh a)) = nn ks ∧ (l < Y.length → lastK (ks.map (sh a)) ((a : Int) + l) < (a + Y.length : Nat))
  | [], [], _, _, _ => ⟨trivial, rfl, fun h => by simp only [List.map_nil, lastK]; omega⟩
  | c :: x, k :: ks, l, hl, h => by
    unfold Row at h
    rw [List.map_cons]
    by_cases e : k = -1
    · rw [if_pos e] at h
      have e2 : sh a k = -1 := by unfold sh; rw [if_neg (by omega)]
      obtain ⟨h1, h2, h3⟩ := row_shift y Y a hy ha hYy x ks l hl h
      rw [e2, Row, if_pos rfl, lastK, if_pos rfl, nn_cons_neg (by omega), nn_cons_neg (by omega)]
      exact ⟨h1, h2, h3⟩
    · rw [if_neg e] at h
      obtain ⟨g1, g2, g3, g4⟩ := h
      have e2 : sh a k = (a : Int) + k := by unfold sh; rw [if_pos (by omega), w64 _ (by omega)]
      obtain ⟨h1, h2, h3⟩ := row_shift y Y a hy ha hYy x ks k (by omega) g4
      rw [e2, Row, if_neg (by omega), lastK, if_neg (by omega), nn_cons_pos (by omega), nn_cons_pos (by omega)]
      refine ⟨⟨by omega, by omega, ?_, h1⟩, by rw [h2], fun _ => h3 (by omega)⟩
      rw [g3, hYy _ (by omega), show a + k.toNat = ((a : Int) + k).toNat from by omega]
  | [], _ :: _, _, _, h => by unfold Row at h; exact h.elim
  | _ :: _, [], _, _, h => by unfold Row at h; exact h.elim

/-! the pieces of what speedy keeps -/
theorem sb_same (x y : List Int) (a : Nat) : ∀ b d, a ≤ b → a ≤ d → ∀ i, (sb x y a b d).1 ≤ i → i < b → x.getD i 0 = y.getD ((sb x y a b d).2 + i - (sb x y a b d).1) 0
  | 0, d, _, _, i, _, h2 => by omega
  | b + 1, d, h1, h2, i, h3, h4 => by
    have hp := sb_le x y a (b + 1) d h1 h2
    rw [sb] at h3 hp ⊢
    by_cases h : a < b + 1 ∧ a < d ∧ x.getD b 0 = y.getD (d - 1) 0
    · rw [if_pos h] at h3 hp ⊢
      by_cases e : i = b
      · subst e
        rw [h.2.2]
        congr 1
        omega
      · exact sb_same x y a b (d - 1) (by omega) (by omega) i h3 (by omega)
    · rw [if_neg h] at h3; omega
theorem L_tail (X Y u : List Int) : L (X ++ u) (Y ++ u) = L X Y + u.length := by
  have h : ∀ (v p q : List Int), L (v ++ p) (v ++ q) = L p q + v.length := by
    intro v
    induction v with
    | nil => intro p q; rfl
    | cons c v ih => intro p q; rw [List.cons_append, List.cons_append, L_cons, if_pos rfl, ih, List.length_cons]; omega
  rw [← L_rev (X ++ u) (Y ++ u), List.reverse_append, List.reverse_append, h, L_rev, List.length_reverse]
theorem getD_mid (y : List Int) (a d i : Nat) (h : a + i < d) : ((y.take d).drop a).getD i 0 = y.getD (a + i) 0 := by
  simp only [List.getD_eq_getElem?_getD, List.getElem?_drop, List.getElem?_take]
  rw [if_pos h]

theorem KK_parts (x y : List Int) (hx : x.length ≤ 4096) (hy : y.length ≤ 4096) (bound : Int) :
    ∃ a b d X Y m, cp x y = a ∧ a ≤ b ∧ b ≤ x.length ∧ a ≤ d ∧ d ≤ y.length ∧ x.length - b = y.length - d ∧ X = (x.take b).drop a ∧ Y = (y.take d).drop a ∧
      m = mid x y bound a b d ∧ KK x y bound = upto 0 a ++ (m.map (sh a) ++ upto (d : Int) (x.length - b)) ∧ Row Y X m (-1) ∧
      (∀ i, b ≤ i → i < x.length → x.getD i 0 = y.getD (d + i - b) 0) := by
  have hc := cp_le x y
  obtain ⟨s1, s2, s3, s4, s5⟩ := sb_le x y (cp x y) x.length y.length hc.1 hc.2
  have hss := sb_same x y (cp x y) x.length y.length hc.1 hc.2
  have hKK : KK x y bound = (List.range x.length).map (Kat x y bound (cp x y) (sb x y (cp x y) x.length y.length).1 (sb x y (cp x y) x.length y.length).2) := rfl
  refine ⟨cp x y, (sb x y (cp x y) x.length y.length).1, (sb x y (cp x y) x.length y.length).2, _, _, _, rfl, s1, s2, s3, s4, by omega, rfl, rfl, rfl, ?_, ?_, fun i h1 h2 => hss i h1 h2⟩
  · rw [hKK]
    generalize (sb x y (cp x y) x.length y.length).1 = b at *
    generalize (sb x y (cp x y) x.length y.length).2 = d at *
    generalize cp x y = a at *
    have hml := mid_len x y bound a b d s2
    have hu : ∀ (n : Nat) (j : Int) (i : Nat), i < n → (upto j n)[i]? = some (j + i) := by
      intro n
      induction n with
      | zero => intro j i hi; omega
      | succ n ih =>
        intro j i hi
        cases i with
        | zero => simp [upto]
        | succ i => rw [upto, List.getElem?_cons_succ, ih (j + 1) i (by omega)]; congr 1; omega
    apply List.ext_getElem?
    intro i
    by_cases hi : i < x.length
    · rw [show ((List.range x.length).map (Kat x y bound a b d))[i]? = some (Kat x y bound a b d i) from by simp [hi]]
      unfold Kat
      by_cases e1 : i < a
      · rw [if_pos e1, List.getElem?_append_left (by rw [upto_len]; exact e1), hu a 0 i e1, Int.zero_add]
      · rw [if_neg e1, List.getElem?_append_right (by rw [upto_len]; omega), upto_len]
        by_cases e2 : b ≤ i
        · rw [if_pos e2, List.getElem?_append_right (by rw [List.length_map, hml]; omega), List.length_map, hml, hu _ _ _ (by omega)]
          congr 1; omega
        · rw [if_neg e2, List.getElem?_append_left (by rw [List.length_map, hml]; omega), List.getElem?_map]
          have hlt : i - a < (mid x y bound a b d).length := by omega
          have hg : (mid x y bound a b d).getD (i - a) 0 = (mid x y bound a b d)[i - a] := by simp [List.getD_eq_getElem?_getD, hlt]
          rw [List.getElem?_eq_getElem hlt, hg]
          rfl
    · rw [List.getElem?_eq_none (by simp; omega), List.getElem?_eq_none (by simp only [List.length_append, upto_len, List.length_map, hml]; omega)]
  · unfold mid
    split
    · exact row_kp _ _ _ 0 (by rw [List.drop_zero])
    · exact row_gr _ 64 _ 0

theorem KK_row (x y : List Int) (hx : x.length ≤ 4096) (hy : y.length ≤ 4096) (bound : Int) :
    Row y x (KK x y bound) (-1) ∧ nn (KK x y bound) ≤ L x y ∧ (bound ≥ ((x.length * y.length : Nat) : Int) → nn (KK x y bound) = L x y) := by
  obtain ⟨a, b, d, X, Y, m, ha, h1, h2, h3, h4, h5, hX, hY, hm, hK, hR, hS⟩ := KK_parts x y hx hy bound
  have lX : X.length = b - a := by rw [hX, List.length_drop, List.length_take]; omega
  have lY : Y.length = d - a := by rw [hY, List.length_drop, List.length_take]; omega
  have hYy : ∀ i, i < Y.length → Y.getD i 0 = y.getD (a + i) 0 := fun i hi => by rw [hY]; exact getD_mid y a d i (by omega)
  obtain ⟨r1, r2, r3⟩ := row_shift y Y a (by omega) (by omega) hYy X m (-1) (by omega) hR
  have hx3 : x = x.take a ++ (X ++ x.drop b) := by
    have e : X ++ x.drop b = x.drop a := by
      have : x.drop b = (x.drop a).drop (b - a) := by rw [List.drop_drop]; congr 1; omega
      have e2 : X = (x.drop a).take (b - a) := by rw [hX, List.drop_take]
      rw [e2, this, List.take_append_drop]
    rw [e, List.take_append_drop]
  have la : (x.take a).length = a := by rw [List.length_take]; omega
  have lb : (x.drop b).length = x.length - b := by rw [List.length_drop]
  have p1 : Row y (x.take a) (upto 0 a) (-1) := by
    have := row_same y (x.take a) 0 (by omega) (fun i hi => by
      rw [la] at hi
      rw [show (x.take a).getD i 0 = x.getD i 0 from by simp [List.getD_eq_getElem?_getD, List.getElem?_take, hi], Nat.zero_add]
      exact cp_same x y i (by omega))
    rw [la] at this
    exact this
  have p3 : Row y (x.drop b) (upto (d : Int) (x.length - b)) ((d : Int) - 1) := by
    have := row_same y (x.drop b) d (by omega) (fun i hi => by
      rw [getD_drop, hS (b + i) (by omega) (by omega)]
      congr 1; omega)
    rw [lb] at this
    exact this
  have hlast1 : lastK (upto 0 a) (-1) = (a : Int) + -1 := by
    have := lastK_upto a 0 (by omega)
    rw [show (0 : Int) - 1 = -1 from by omega] at this
    rw [this]; omega
  have hrow : Row y x (KK x y bound) (-1) := by
    rw [hK]
    conv => arg 2; rw [hx3]
    refine Row.append _ _ _ _ _ p1 ?_
    rw [hlast1]
    refine Row.append _ _ _ _ _ r1 ?_
    refine Row.mono _ _ _ _ ?_ p3
    have := r3 (by omega)
    omega
  have hmost := Row.most x (KK x y bound) (-1) (by omega) hrow
  simp only [Int.add_left_neg, Int.toNat_zero, List.drop_zero] at hmost
  refine ⟨hrow, hmost, fun hb => ?_⟩
  have hmul : (b - a) * (d - a) ≤ x.length * y.length := Nat.mul_le_mul (by omega) (by omega)
  have hle : (((b - a) * (d - a) : Nat) : Int) ≤ mx 0 bound := by unfold mx; split <;> omega
  have hmk : m = kp X Y 0 := by rw [hm, hX, hY]; unfold mid; rw [if_pos hle]
  have hnk := (kp_hon Y X Y 0 (by rw [List.drop_zero])).2
  rw [show ((0 : Nat) : Int) = 0 from rfl] at hnk
  have hn : nn (KK x y bound) = a + (L X Y + (x.length - b)) := by
    rw [hK, nn_append, nn_append, nn_upto a 0 (by omega), r2, hmk, hnk, nn_upto _ _ (by omega)]
  have hL : L x y = a + (L X Y + (x.length - b)) := by
    have e1 := L_cp x y
    rw [ha] at e1
    have ex : x.drop a = X ++ x.drop b := by
      have : x.drop b = (x.drop a).drop (b - a) := by rw [List.drop_drop]; congr 1; omega
      have e2 : X = (x.drop a).take (b - a) := by rw [hX, List.drop_take]
      rw [e2, this, List.take_append_drop]
    have ey : y.drop a = Y ++ y.drop d := by
      have : y.drop d = (y.drop a).drop (d - a) := by rw [List.drop_drop]; congr 1; omega
      have e2 : Y = (y.drop a).take (d - a) := by rw [hY, List.drop_take]
      rw [e2, this, List.take_append_drop]
    have eu : y.drop d = x.drop b := by
      apply List.ext_getElem?
      intro i
      rw [List.getElem?_drop, List.getElem?_drop]
      by_cases hi : b + i < x.length
      · have hs := hS (b + i) (by omega) hi
        rw [show d + (b + i) - b = d + i from by omega] at hs
        have hi2 : d + i < y.length := by omega
        simp only [List.getD_eq_getElem?_getD, List.getElem?_eq_getElem hi, List.getElem?_eq_getElem hi2, Option.getD_some] at hs
        rw [List.getElem?_eq_getElem hi, List.getElem?_eq_getElem hi2, hs]
      · rw [List.getElem?_eq_none (by omega), List.getElem?_eq_none (by omega)]
    rw [ex, ey, eu, L_tail, lb] at e1
    exact e1
  omega
theorem KK_empty (x y : List Int) (hx : x.length ≤ 4096) (hy : y.length ≤ 4096) (bound : Int) : mk y.length (KK x y bound) 0 0 0 = [] ↔ x = y := by
  obtain ⟨hr, hm, _⟩ := KK_row x y hx hy bound
  constructor
  · intro h
    obtain ⟨h1, h2⟩ := mk_empty y.length (KK x y bound) 0 0 h (Row.ok _ _ _ hr) (by omega)
    rw [KK_len] at h1 h2
    have hn : nn (KK x y bound) = x.length := by rw [h1, nn_upto _ _ (by omega)]
    have hf : L x y = x.length := by have := L_le_l x y; omega
    have hs := (L_full x y).1 hf
    exact hs.eq_of_length (by have := hs.length_le; omega)
  · intro h
    subst h
    obtain ⟨a, b, d, X, Y, m, ha, h1, h2, h3, h4, h5, hX, hY, hm2, hK, hR, hS⟩ := KK_parts x x hx hy bound
    have hax : a = x.length := by
      by_cases hlt : a < x.length
      · rw [← ha] at hlt
        exact absurd rfl (cp_stop x x hlt hlt)
      · omega
    have hm0 : m = [] := by
      have := mid_len x x bound a b d h2
      rw [← hm2] at this
      exact List.eq_nil_of_length_eq_zero (by omega)
    rw [hK, hm0, show x.length - b = 0 from by omega, hax]
    simp only [List.map_nil, List.nil_append, upto, List.append_nil]
    exact mk_upto _ _ _ _ (by omega) (by omega)
end Go.Proofs.Ytdcldoembdifpaa.Q
