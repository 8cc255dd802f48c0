/- plain: rows of pairs of the same class -/
import Derived.Test.YtonbplflmdpikaaZOQa
import Derived.Test.YtonbplflmdpikaaZOQi
namespace Go.Proofs.Ytonbplflmdpikaa.Q
set_option linter.unusedVariables false
set_option linter.unusedSimpArgs false
open Go.RowKit Go.Proofs.Ytonbplflmdpikaa.X Go.Proofs.YtonbplflmdpikaaW.PrintWords Go.Proofs.YtonbplflmdpikaaW.PrintLast Go.Proofs.YtonbplflmdpikaaW.PrintMore
/-- the lines kept rise above last, and are the same in both -/
def Row (y : List Int) : List Int → List Int → Int → Prop
  | [], [], _ => True
  | c :: x, k :: ks, last => if k = -1 then Row y x ks last else last < k ∧ k < (y.length : Int) ∧ c = y.getD k.toNat 0 ∧ Row y x ks k
  | _, _, _ => False
def lastK : List Int → Int → Int
  | [], l => l
  | k :: ks, l => if k = -1 then lastK ks l else lastK ks k
theorem Row.mono {y : List Int} : ∀ (x ks : List Int) (l l' : Int), l' ≤ l → Row y x ks l → Row y x ks l'
  | [], [], _, _, _, h => trivial
  | c :: x, k :: ks, l, l', hl, h => by
    unfold Row at h ⊢
    by_cases e : k = -1
    · rw [if_pos e] at h ⊢; exact Row.mono x ks l l' hl h
    · rw [if_neg e] at h ⊢; exact ⟨by omega, h.2⟩
  | [], _ :: _, _, _, _, h => by unfold Row at h; exact h.elim
  | _ :: _, [], _, _, _, h => by unfold Row at h; exact h.elim
theorem Row.append {y : List Int} (x2 k2 : List Int) : ∀ (x1 k1 : List Int) (l : Int), Row y x1 k1 l → Row y x2 k2 (lastK k1 l) → Row y (x1 ++ x2) (k1 ++ k2) l
  | [], [], l, _, h => h
  | c :: x, k :: ks, l, h, h2 => by
    rw [List.cons_append, List.cons_append]
    unfold Row at h ⊢
    unfold lastK at h2
    by_cases e : k = -1
    · rw [if_pos e] at h h2 ⊢; exact Row.append x2 k2 x ks l h h2
    · rw [if_neg e] at h h2 ⊢; exact ⟨h.1, h.2.1, h.2.2.1, Row.append x2 k2 x ks k h.2.2.2 h2⟩
  | [], _ :: _, _, h, _ => by unfold Row at h; exact h.elim
  | _ :: _, [], _, h, _ => by unfold Row at h; exact h.elim
theorem Row.ok {y : List Int} : ∀ (x ks : List Int) (l : Int), Row y x ks l → okK y.length ks l = true
  | [], [], _, _ => rfl
  | c :: x, k :: ks, l, h => by
    unfold Row at h
    rw [okK]
    by_cases e : k = -1
    · rw [if_pos e] at h ⊢; exact Row.ok x ks l h
    · rw [if_neg e] at h ⊢; rw [if_neg (by omega), if_neg (by omega)]; exact Row.ok x ks k h.2.2.2
  | [], _ :: _, _, h => by unfold Row at h; exact h.elim
  | _ :: _, [], _, h => by unfold Row at h; exact h.elim
theorem lastK_upto : ∀ (n : Nat) (j : Int), 0 ≤ j → lastK (upto j n) (j - 1) = j + n - 1
  | 0, j, _ => by simp [upto, lastK]
  | n + 1, j, h => by
    rw [upto, lastK, if_neg (by omega)]
    have := lastK_upto n (j + 1) (by omega)
    rw [show j + 1 - 1 = j from by omega] at this
    rw [this]; omega
/-- a piece that is the same in both -/
theorem row_same (y : List Int) : ∀ (u : List Int) (j : Nat), j + u.length ≤ y.length → (∀ i, i < u.length → u.getD i 0 = y.getD (j + i) 0) → Row y u (upto (j : Int) u.length) ((j : Int) - 1)
  | [], j, _, _ => trivial
  | c :: u, j, h1, h2 => by
    rw [List.length_cons, upto, Row, if_neg (by omega)]
    have h0 := h2 0 (by simp)
    simp only [List.getD_cons_zero, Nat.add_zero] at h0
    refine ⟨by omega, by simp at h1; omega, by rw [Int.toNat_natCast]; exact h0, ?_⟩
    have ih := row_same y u (j + 1) (by simp at h1; omega) (fun i hi => by
      have := h2 (i + 1) (by simp; omega)
      simp only [List.getD_cons_succ] at this
      rw [this, show j + (i + 1) = j + 1 + i from by omega])
    rw [show ((j + 1 : Nat) : Int) = (j : Int) + 1 from by omega, show (j : Int) + 1 - 1 = (j : Int) from by omega] at ih
    exact ih
theorem row_kp (Y : List Int) : ∀ (x y : List Int) (j : Nat), Y.drop j = y → Row Y x (kp x y (j : Int)) ((j : Int) - 1)
  | [], y, j, _ => by rw [kp_nil]; trivial
  | a :: x, [], j, h => by rw [kp, Row, if_pos rfl]; exact row_kp Y x [] j h
  | a :: x, b :: y, j, h => by
    have hj : j < Y.length := by
      have := congrArg List.length h
      simp at this
      omega
    have hb := drop_cons Y j hj
    rw [h] at hb
    injection hb with hb1 hb2
    have e1 : ((j + 1 : Nat) : Int) = (j : Int) + 1 := by omega
    rw [kp_cons]
    by_cases he : a = b
    · rw [if_pos he, Row, if_neg (by omega)]
      refine ⟨by omega, by omega, by rw [Int.toNat_natCast, ← hb1]; exact he, ?_⟩
      have ih := row_kp Y x y (j + 1) hb2.symm
      rw [e1, show (j : Int) + 1 - 1 = (j : Int) from by omega] at ih
      exact ih
    · rw [if_neg he]
      by_cases hg : L (a :: x) y ≤ L x (b :: y)
      · rw [if_pos hg, Row, if_pos rfl]
        exact row_kp Y x (b :: y) j h
      · rw [if_neg hg]
        have ih := row_kp Y (a :: x) y (j + 1) hb2.symm
        rw [e1] at ih
        exact Row.mono _ _ _ _ (by omega) ih
termination_by x y => x.length + y.length
def sh (a : Nat) (v : Int) : Int := if v ≥ 0 then wrap64 ((a : Int) + v) else -1
theorem row_shift (y Y : List Int) (a : Nat) (hy : y.length ≤ 1000000) (ha : a + Y.length ≤ y.length) (hYy : ∀ i, i < Y.length → Y.getD i 0 = y.getD (a + i) 0) : ∀ (x ks : List Int) (l : Int), -1 ≤ l → Row Y x ks l → Row y x (ks.map (sh a)) ((a : Int) + l) ∧ nn (ks.map (sh a)) = nn ks ∧ (l < Y.length → lastK (ks.map (sh a)) ((a : Int) + l) < (a + Y.length : Nat))
  | [], [], _, _, _ => ⟨trivial, rfl, fun h => by simp only [List.map_nil, lastK]; omega⟩
  | c :: x, k :: ks, l, hl, h => by
    unfold Row at h
    rw [List.map_cons]
    by_cases e : k = -1
    · rw [if_pos e] at h
      have e2 : sh a k = -1 := by unfold sh; rw [if_neg (by omega)]
      obtain ⟨h1, h2, h3⟩ := row_shift y Y a hy ha hYy x ks l hl h
      rw [e2, Row, if_pos rfl, lastK, if_pos rfl, nn_cons_neg (by omega), nn_cons_neg (by omega)]
      exact ⟨h1, h2, h3⟩
    · rw [if_neg e] at h
      obtain ⟨g1, g2, g3, g4⟩ := h
      have e2 : sh a k = (a : Int) + k := by unfold sh; rw [if_pos (by omega), w64 _ (by omega)]
      obtain ⟨h1, h2, h3⟩ := row_shift y Y a hy ha hYy x ks k (by omega) g4
      rw [e2, Row, if_neg (by omega), lastK, if_neg (by omega), nn_cons_pos (by omega), nn_cons_pos (by omega)]
      refine ⟨⟨by omega, by omega, ?_, h1⟩, by rw [h2], fun _ => h3 (by omega)⟩
      rw [g3, hYy _ (by omega), show a + k.toNat = ((a : Int) + k).toNat from by omega]
  | [], _ :: _, _, _, h => by unfold Row at h; exact h.elim
  | _ :: _, [], _, _, h => by unfold Row at h; exact h.elim
end Go.Proofs.Ytonbplflmdpikaa.Q
