/- plain: what histogram keeps is a row of pairs of the same class -/
import Derived.Test.YtdcldoembdifpaaZHQo
import Derived.Test.YtdcldoembdifpaaZHQr
namespace Go.Proofs.Ytdcldoembdifpaa.Q
set_option linter.unusedVariables false
set_option linter.unusedSimpArgs false
open Go.RowKit Go.Proofs.Ytdcldoembdifpaa.X Go.Proofs.Ytdcldoembdifpaa.Q.HB Go.Proofs.YtdcldoembdifpaaW.PrintWords Go.Proofs.YtdcldoembdifpaaW.PrintLast Go.Proofs.YtdcldoembdifpaaW.PrintMore
theorem lay_in (U : List Int) : ∀ (n m p : Nat) (v : Int) (P : List Int), P.length = p → n ≤ m → hp_lay n p v (P ++ (List.replicate m (-1) ++ U)) = P ++ (upto v n ++ (List.replicate (m - n) (-1) ++ U)) := by
  intro n
  induction n with
  | zero => intro m p v P h1 h2; simp [hp_lay, upto]
  | succ n ih =>
    intro m p v P h1 h2
    obtain ⟨m', rfl⟩ : ∃ m', m = m' + 1 := ⟨m - 1, by omega⟩
    subst h1
    rw [hp_lay, List.replicate_succ, List.cons_append, set_append_cons]
    have := ih m' (P.length + 1) (v + 1) (P ++ [v]) (by simp) (by omega)
    rw [List.append_assoc, List.singleton_append] at this
    rw [this, upto, List.append_assoc, List.singleton_append, List.cons_append, show m' + 1 - (n + 1) = m' - n from by omega]
theorem back_in (x y : List Int) (a c : Nat) (P : List Int) (hP : P.length = a) : ∀ q b d U, a ≤ b → c ≤ d →
    (hp_back x y a c q b d (P ++ (List.replicate (b - a) (-1) ++ U))).2.2 = P ++ (List.replicate ((hp_back x y a c q b d (P ++ (List.replicate (b - a) (-1) ++ U))).1 - a) (-1) ++ (upto (((hp_back x y a c q b d (P ++ (List.replicate (b - a) (-1) ++ U))).2.1 : Nat) : Int) (b - (hp_back x y a c q b d (P ++ (List.replicate (b - a) (-1) ++ U))).1) ++ U)) := by
  intro q
  induction q with
  | zero => intro b d U h1 h2; simp only [hp_back]; simp [upto]
  | succ q ih =>
    intro b d U h1 h2
    rw [hp_back]
    by_cases h : a < b ∧ c < d ∧ x.getD (b - 1) 0 = y.getD (d - 1) 0
    · rw [if_pos h]
      have e : (P ++ (List.replicate (b - a) (-1) ++ U)).set (b - 1) ((d - 1 : Nat) : Int) = P ++ (List.replicate (b - 1 - a) (-1) ++ (((d - 1 : Nat) : Int) :: U)) := by
        have e1 : b - a = (b - 1 - a) + 1 := by omega
        rw [e1, List.replicate_succ', List.append_assoc, List.singleton_append, ← List.append_assoc, ← List.append_assoc]
        have e2 : b - 1 = (P ++ List.replicate (b - 1 - a) (-1 : Int)).length := by rw [List.length_append, List.length_replicate, hP]; omega
        have := set_append_cons (P ++ List.replicate (b - 1 - a) (-1 : Int)) (-1) U ((d - 1 : Nat) : Int)
        rw [← e2] at this
        exact this
      rw [e]
      have i1 := ih (b - 1) (d - 1) (((d - 1 : Nat) : Int) :: U) (by omega) (by omega)
      have i2 := back_spec x y a c q (b - 1) (d - 1) (P ++ (List.replicate (b - 1 - a) (-1) ++ (((d - 1 : Nat) : Int) :: U))) (by omega) (by omega)
      generalize hp_back x y a c q (b - 1) (d - 1) (P ++ (List.replicate (b - 1 - a) (-1) ++ (((d - 1 : Nat) : Int) :: U))) = s at *
      obtain ⟨j1, j2, j3, j4, j5, _, _⟩ := i2
      rw [i1, show b - s.1 = (b - 1 - s.1) + 1 from by omega, upto_snoc, List.append_assoc, List.singleton_append, show ((s.2.1 : Nat) : Int) + ((b - 1 - s.1 : Nat) : Int) = ((d - 1 : Nat) : Int) from by omega]
    · rw [if_neg h]; simp [upto]
theorem lsl_in (c : Nat) (U : List Int) : ∀ (vs : List Int) (p : Nat) (P : List Int), P.length = p → ls_lay (c : Int) p vs (P ++ (List.replicate vs.length (-1) ++ U)) = P ++ (vs.map (sh c) ++ U) := by
  intro vs
  induction vs with
  | nil => intro p P h; rfl
  | cons v vs ih =>
    intro p P h
    subst h
    rw [ls_lay, List.length_cons, List.replicate_succ, List.cons_append, List.map_cons, List.cons_append]
    have e : (if v ≥ 0 then (P ++ (-1 : Int) :: (List.replicate vs.length (-1) ++ U)).set P.length (wrap64 ((c : Int) + v)) else P ++ (-1 : Int) :: (List.replicate vs.length (-1) ++ U)) = (P ++ [sh c v]) ++ (List.replicate vs.length (-1) ++ U) := by
      rw [List.append_assoc, List.singleton_append]
      unfold sh
      by_cases h : v ≥ 0
      · rw [if_pos h, if_pos h, set_append_cons]
      · rw [if_neg h, if_neg h]
    rw [e, ih (P.length + 1) (P ++ [sh c v]) (by simp), List.append_assoc, List.singleton_append]
theorem lastK_append : ∀ (p q : List Int) (l : Int), lastK (p ++ q) l = lastK q (lastK p l)
  | [], q, l => rfl
  | k :: p, q, l => by
    rw [List.cons_append, lastK, lastK]
    by_cases e : k = -1
    · rw [if_pos e, if_pos e]; exact lastK_append p q l
    · rw [if_neg e, if_neg e]; exact lastK_append p q k
theorem lastK_rep : ∀ (n : Nat) (l : Int), lastK (List.replicate n (-1)) l = l
  | 0, l => rfl
  | n + 1, l => by rw [List.replicate_succ, lastK, if_pos rfl]; exact lastK_rep n l
theorem lastK_up : ∀ (n : Nat) (j l : Int), 0 ≤ j → l ≤ j - 1 → lastK (upto j n) l ≤ j + n - 1
  | 0, j, l, _, h => by simp only [upto, lastK]; omega
  | n + 1, j, l, h, hl => by
    rw [upto, lastK, if_neg (by omega)]
    have := lastK_up n (j + 1) j (by omega) (by omega)
    omega
theorem row_rep (y : List Int) : ∀ (x : List Int) (l : Int), Row y x (List.replicate x.length (-1)) l
  | [], l => trivial
  | c :: x, l => by rw [List.length_cons, List.replicate_succ, Row, if_pos rfl]; exact row_rep y x l
theorem cut_split (x : List Int) (a m b : Nat) (h1 : a ≤ m) (h2 : m ≤ b) (h3 : b ≤ x.length) : hp_cut x a b = hp_cut x a m ++ hp_cut x m b := by
  unfold hp_cut
  have e : x.take b = x.take m ++ (x.take b).drop m := by
    have := (List.take_append_drop m (x.take b)).symm
    rw [List.take_take, Nat.min_eq_left h2] at this
    exact this
  have hl : a ≤ (x.take m).length := by rw [List.length_take]; omega
  conv => lhs; rw [e]
  rw [List.drop_append_of_le_length hl]
theorem cut_all (x : List Int) : hp_cut x 0 x.length = x := by simp [hp_cut]
theorem row_cut (x y : List Int) (a b c : Nat) (h1 : a ≤ b) (h2 : b ≤ x.length) (h3 : c + (b - a) ≤ y.length) (h : ∀ t, t < b - a → x.getD (a + t) 0 = y.getD (c + t) 0) : Row y (hp_cut x a b) (upto (c : Int) (b - a)) ((c : Int) - 1) := by
  have hl := cut_len x a b h2
  have := row_same y (hp_cut x a b) c (by omega) (by
    intro i hi
    rw [cut_getD x a b i (by omega)]
    exact h i (by omega))
  rw [hl] at this
  exact this
theorem L_no (x y : List Int) (h : ∀ i j, i < x.length → j < y.length → x.getD i 0 ≠ y.getD j 0) : L x y = 0 := by
  obtain ⟨z, h1, h2, h3⟩ := L_sub x y
  cases z with
  | nil => exact h3.symm
  | cons v z =>
    exfalso
    have m1 : v ∈ x := h1.subset (.head _)
    have m2 : v ∈ y := h2.subset (.head _)
    obtain ⟨i, hi, e1⟩ := List.mem_iff_getElem.1 m1
    obtain ⟨j, hj, e2⟩ := List.mem_iff_getElem.1 m2
    refine h i j hi hj ?_
    simp [List.getD_eq_getElem?_getD, hi, hj, e1, e2]
/-- a piece's part of the answer -/
structure Part (x y : List Int) (a b c d : Nat) (M : List Int) : Prop where
  len : M.length = b - a
  row : Row y (hp_cut x a b) M ((c : Int) - 1)
  last : lastK M ((c : Int) - 1) < d
  none : nn M = 0 → L (hp_cut x a b) (hp_cut y c d) = 0
section
variable (x y : List Int) (hx : x.length ≤ 4096) (hy : y.length ≤ 4096)
include hx hy
theorem pcr_in (f a c b d : Nat) (P U : List Int) (h1 : a ≤ b) (h2 : b ≤ x.length) (h3 : c ≤ d) (h4 : d ≤ y.length) (hP : P.length = a) (hf : b - a ≤ f)
    (IH : ∀ a b c d (P U : List Int), b - a < f → a ≤ b → b ≤ x.length → c ≤ d → d ≤ y.length → P.length = a → ∃ M, pc x y f a b c d (P ++ (List.replicate (b - a) (-1) ++ U)) = P ++ (M ++ U) ∧ Part x y a b c d M) :
    ∃ M, pcr x y (pc x y f) a c (b, d, P ++ (List.replicate (b - a) (-1) ++ U)) = P ++ (M ++ U) ∧ Part x y a b c d M := by
  have lX := cut_len x a b h2
  have lY := cut_len y c d h4
  unfold pcr
  dsimp only
  cases hfd : (bst (hp_cut x a b) (hp_cut y c d)).2.2.2.2 with
  | false =>
    simp only [if_true]
    obtain ⟨_, hno⟩ := bst_none _ _ hfd
    refine ⟨List.replicate (b - a) (-1), rfl, ⟨by simp, ?_, ?_, fun _ => L_no _ _ hno⟩⟩
    · have := row_rep y (hp_cut x a b) ((c : Int) - 1)
      rw [lX] at this
      exact this
    · rw [lastK_rep]; omega
  | true =>
    simp only [Bool.true_eq_false, if_false]
    obtain ⟨i, j, n, rare, e, hn, hR, _⟩ := bst_some _ _ hfd
    rw [e]
    dsimp only
    have hRi := hR.hi
    have hRj := hR.hj
    rw [lX] at hRi
    rw [lY] at hRj
    by_cases hr : rare > 64
    · simp only [if_pos hr]
      have hk := row_kp (hp_cut y c d) (hp_cut x a b) (hp_cut y c d) 0 rfl
      have hh := kp_hon (hp_cut y c d) (hp_cut x a b) (hp_cut y c d) 0 rfl
      simp only [Int.natCast_zero] at hk hh
      obtain ⟨s1, s2, s3⟩ := row_shift y (hp_cut y c d) c (by omega) (by omega) (fun i hi => cut_getD y c d i (by omega)) (hp_cut x a b) _ (0 - 1) (by omega) hk
      refine ⟨(kp (hp_cut x a b) (hp_cut y c d) 0).map (sh c), ?_, ⟨by rw [List.length_map, kp_len, lX], ?_, ?_, ?_⟩⟩
      · have := lsl_in c U (kp (hp_cut x a b) (hp_cut y c d) 0) a P hP
        rw [kp_len, lX] at this
        exact this
      · exact s1
      · have := s3 (by omega)
        rw [lY] at this
        rw [show (c : Int) - 1 = (c : Int) + (0 - 1) from by omega]
        omega
      · intro h0
        rw [s2, hh.2] at h0
        exact h0
    · simp only [if_neg hr, Int.toNat_natCast]
      obtain ⟨u, hu⟩ : ∃ u, u = a + i := ⟨_, rfl⟩
      obtain ⟨v, hv⟩ : ∃ v, v = c + j := ⟨_, rfl⟩
      rw [← hu, ← hv, show (c : Int) + (j : Int) = (v : Int) from by omega]
      have t1 : P ++ (List.replicate (b - a) (-1) ++ U) = (P ++ List.replicate (u - a) (-1)) ++ (List.replicate (b - u) (-1) ++ U) := by
        rw [show b - a = (u - a) + (b - u) from by omega, ← List.replicate_append_replicate, List.append_assoc, List.append_assoc]
      have t2 := lay_in U n (b - u) u (v : Int) (P ++ List.replicate (u - a) (-1)) (by rw [List.length_append, List.length_replicate]; omega) (by omega)
      rw [t1, t2]
      rw [List.append_assoc]
      obtain ⟨M1, e1, p1⟩ := IH a u c v P (upto (v : Int) n ++ (List.replicate (b - u - n) (-1) ++ U)) (by omega) (by omega) (by omega) (by omega) (by omega) hP
      rw [e1]
      have p1l := p1.len
      have t3 : P ++ (M1 ++ (upto (v : Int) n ++ (List.replicate (b - u - n) (-1) ++ U))) = (P ++ (M1 ++ upto (v : Int) n)) ++ (List.replicate (b - (u + n)) (-1) ++ U) := by
        rw [show b - (u + n) = b - u - n from by omega]; simp only [List.append_assoc]
      obtain ⟨M2, e2, p2⟩ := IH (u + n) b (v + n) d (P ++ (M1 ++ upto (v : Int) n)) U (by omega) (by omega) (by omega) (by omega) (by omega) (by rw [List.length_append, List.length_append, upto_len]; omega)
      rw [t3, e2]
      have p2l := p2.len
      refine ⟨M1 ++ (upto (v : Int) n ++ M2), by simp only [List.append_assoc], ⟨?_, ?_, ?_, ?_⟩⟩
      · rw [List.length_append, List.length_append, upto_len]; omega
      · rw [cut_split x a u b (by omega) (by omega) h2, cut_split x u (u + n) b (by omega) (by omega) h2]
        refine Go.Proofs.Ytdcldoembdifpaa.Q.Row.append _ _ _ _ _ p1.row ?_
        have hm : Row y (hp_cut x u (u + n)) (upto (v : Int) n) ((v : Int) - 1) := by
          have := row_cut x y u (u + n) v (by omega) (by omega) (by omega) (by
            intro t ht
            have hs := hR.same t (by omega)
            rw [cut_getD x a b (i + t) (by omega), cut_getD y c d (j + t) (by omega)] at hs
            rw [hu, hv, show a + i + t = a + (i + t) from by omega, show c + j + t = c + (j + t) from by omega]
            exact hs)
          rw [show u + n - u = n from by omega] at this
          exact this
        have hl1 := p1.last
        refine Go.Proofs.Ytdcldoembdifpaa.Q.Row.append _ _ _ _ _ (Go.Proofs.Ytdcldoembdifpaa.Q.Row.mono _ _ _ _ (by omega) hm) ?_
        have hl2 := lastK_up n (v : Int) (lastK M1 ((c : Int) - 1)) (by omega) (by omega)
        exact Go.Proofs.Ytdcldoembdifpaa.Q.Row.mono _ _ _ _ (by omega) p2.row
      · rw [lastK_append, lastK_append]
        have hl1 := p1.last
        have hl2 := lastK_up n (v : Int) (lastK M1 ((c : Int) - 1)) (by omega) (by omega)
        have hr2 := Go.Proofs.Ytdcldoembdifpaa.Q.Row.mono _ _ _ _ (show lastK (upto (v : Int) n) (lastK M1 ((c : Int) - 1)) ≤ ((v + n : Nat) : Int) - 1 by omega) p2.row
        have hl3 := p2.last
        have mono : ∀ (ks : List Int) (l l' : Int), l' ≤ l → l < d → lastK ks l < d → lastK ks l' < d := by
          intro ks
          induction ks with
          | nil => intro l l' h h2 h3; simp only [lastK]; omega
          | cons k ks ih =>
            intro l l' h h2 h3
            rw [lastK] at h3 ⊢
            by_cases e : k = -1
            · rw [if_pos e] at h3 ⊢; exact ih l l' h h2 h3
            · rw [if_neg e] at h3 ⊢; exact h3
        exact mono M2 _ _ (by omega) (by omega) hl3
      · intro h0
        rw [nn_append, nn_append, nn_upto n (v : Int) (by omega)] at h0
        omega
theorem pc_in : ∀ f a b c d (P U : List Int), b - a < f → a ≤ b → b ≤ x.length → c ≤ d → d ≤ y.length → P.length = a → ∃ M, pc x y f a b c d (P ++ (List.replicate (b - a) (-1) ++ U)) = P ++ (M ++ U) ∧ Part x y a b c d M := by
  intro f
  induction f with
  | zero => intro a b c d P U h; omega
  | succ f ih =>
    intro a b c d P U hf h1 h2 h3 h4 hP
    rw [pc]
    obtain ⟨f1, f2, f3⟩ := fr_spec x y b d (b - a) a c h1 h3
    generalize fr x y b d (b - a) a c = n at *
    rw [lay_in U n (b - a) a (c : Int) P hP (by omega), ← List.append_assoc, show b - a - n = b - (a + n) from by omega]
    have hP1 : (P ++ upto (c : Int) n).length = a + n := by rw [List.length_append, upto_len]; omega
    have s1 := back_in x y (a + n) (c + n) (P ++ upto (c : Int) n) hP1 (b - (a + n)) b d U (by omega) (by omega)
    have s2 := back_spec x y (a + n) (c + n) (b - (a + n)) b d ((P ++ upto (c : Int) n) ++ (List.replicate (b - (a + n)) (-1) ++ U)) (by omega) (by omega)
    generalize hp_back x y (a + n) (c + n) (b - (a + n)) b d ((P ++ upto (c : Int) n) ++ (List.replicate (b - (a + n)) (-1) ++ U)) = s at *
    obtain ⟨b', d', T'⟩ := s
    dsimp only at *
    obtain ⟨b1, b2, b3, b4, b5, _, b7⟩ := s2
    rw [s1]
    obtain ⟨K, e, p⟩ := pcr_in x y hx hy f (a + n) (c + n) b' d' (P ++ upto (c : Int) n) (upto (d' : Int) (b - b') ++ U) b1 (by omega) b3 (by omega) hP1 (by omega) ih
    rw [e]
    have pl := p.len
    have plast := p.last
    have hM : Row y (hp_cut x a (a + n)) (upto (c : Int) n) ((c : Int) - 1) := by
      have := row_cut x y a (a + n) c (by omega) (by omega) (by omega) (fun t ht => f3 t (by omega))
      rw [show a + n - a = n from by omega] at this
      exact this
    have hlu : lastK (upto (c : Int) n) ((c : Int) - 1) = ((c + n : Nat) : Int) - 1 := by rw [lastK_upto n (c : Int) (by omega)]; omega
    refine ⟨upto (c : Int) n ++ (K ++ upto (d' : Int) (b - b')), by simp only [List.append_assoc], ⟨?_, ?_, ?_, ?_⟩⟩
    · rw [List.length_append, List.length_append, upto_len, upto_len]; omega
    · rw [cut_split x a (a + n) b (by omega) (by omega) h2, cut_split x (a + n) b' b (by omega) (by omega) h2]
      refine Go.Proofs.Ytdcldoembdifpaa.Q.Row.append _ _ _ _ _ hM ?_
      rw [hlu]
      refine Go.Proofs.Ytdcldoembdifpaa.Q.Row.append _ _ _ _ _ p.row ?_
      refine Go.Proofs.Ytdcldoembdifpaa.Q.Row.mono _ _ _ _ (show _ ≤ (d' : Int) - 1 by omega) ?_
      exact row_cut x y b' b d' (by omega) h2 (by omega) b7
    · rw [lastK_append, lastK_append, hlu]
      have := lastK_up (b - b') (d' : Int) (lastK K (((c + n : Nat) : Int) - 1)) (by omega) (by omega)
      omega
    · intro h0
      rw [nn_append, nn_append, nn_upto n (c : Int) (by omega), nn_upto (b - b') (d' : Int) (by omega)] at h0
      have hk := p.none (by omega)
      rw [show a + n = a from by omega, show c + n = c from by omega, show b' = b from by omega, show d' = d from by omega] at hk
      exact hk
/-- what is kept of two texts -/
def PK : List Int := pc x y (x.length + 1) 0 x.length 0 y.length (List.replicate x.length (-1))
theorem PK_part : Part x y 0 x.length 0 y.length (PK x y) := by
  obtain ⟨M, e, p⟩ := pc_in x y hx hy (x.length + 1) 0 x.length 0 y.length [] [] (by omega) (by omega) (by omega) (by omega) (by omega) rfl
  simp only [List.nil_append, List.append_nil, Nat.sub_zero] at e
  unfold PK
  rw [e]
  exact p
theorem PK_row : Row y x (PK x y) (-1) := by
  have h := (PK_part x y hx hy).row
  rw [cut_all] at h
  exact h
theorem PK_len : (PK x y).length = x.length := by have := (PK_part x y hx hy).len; omega
theorem PK_none (h : nn (PK x y) = 0) : L x y = 0 := by
  have := (PK_part x y hx hy).none h
  rw [cut_all, cut_all] at this
  exact this
theorem PK_nn : nn (PK x y) ≤ L x y := by
  have := Go.Proofs.Ytdcldoembdifpaa.Q.Row.most _ _ _ (by omega) (PK_row x y hx hy)
  exact this
end
theorem fr_self (x : List Int) : ∀ q a, a + q = x.length → fr x x x.length x.length q a a = q := by
  intro q
  induction q with
  | zero => intro a h; rfl
  | succ q ih => intro a h; rw [fr, if_pos ⟨by omega, by omega, rfl⟩, ih (a + 1) (by omega)]
theorem PK_self (x : List Int) : PK x x = upto 0 x.length := by
  unfold PK
  rw [pc]
  simp only [Nat.sub_zero]
  rw [fr_self x x.length 0 (by omega), Nat.zero_add, Nat.sub_self]
  have hl := lay_in [] x.length x.length 0 0 [] rfl (Nat.le_refl _)
  simp only [List.nil_append, List.append_nil, Nat.sub_self, List.replicate_zero] at hl
  rw [hp_back, show ((0 : Nat) : Int) = 0 from rfl, hl]
  unfold pcr
  dsimp only
  have : (bst (hp_cut x x.length x.length) (hp_cut x x.length x.length)).2.2.2.2 = false := by
    cases hfd : (bst (hp_cut x x.length x.length) (hp_cut x x.length x.length)).2.2.2.2 with
    | false => rfl
    | true =>
      obtain ⟨i, j, n, rare, e, hn, hR, _⟩ := bst_some _ _ hfd
      have := hR.hi
      rw [cut_len x _ _ (Nat.le_refl _)] at this
      omega
  rw [if_pos this]
theorem PK_empty (x y : List Int) (hx : x.length ≤ 4096) (hy : y.length ≤ 4096) : mk y.length (PK x y) 0 0 0 = [] ↔ x = y := by
  constructor
  · intro h
    have hr := PK_row x y hx hy
    have hl := PK_len x y hx hy
    obtain ⟨e1, e2⟩ := mk_empty y.length (PK x y) 0 0 h (Go.Proofs.Ytdcldoembdifpaa.Q.Row.ok _ _ _ hr) (by omega)
    have hh := Go.Proofs.Ytdcldoembdifpaa.Q.Row.hon _ _ _ (by omega) hr
    rw [hl] at e1
    have hat : ∀ i, i < x.length → (upto 0 x.length).getD i 0 = (i : Int) := by
      have : ∀ (n : Nat) (j : Int) (i : Nat), i < n → (upto j n).getD i 0 = j + (i : Int) := by
        intro n
        induction n with
        | zero => intro j i h; omega
        | succ n ih =>
          intro j i h
          cases i with
          | zero => simp [upto]
          | succ i => rw [upto, List.getD_cons_succ, ih (j + 1) i (by omega)]; omega
      intro i hi
      have := this x.length 0 i hi
      omega
    have hp : ∀ i, i < x.length → i < y.length ∧ x.getD i 0 = y.getD i 0 := by
      intro i hi
      have := hh i (by rw [hl]; exact hi)
      rw [e1, hat i hi] at this
      have := this (by omega)
      rw [Int.toNat_natCast] at this
      exact ⟨by omega, this.2⟩
    have hle : x.length ≤ y.length := by
      rcases Nat.eq_zero_or_pos x.length with e | e
      · omega
      · have := (hp (x.length - 1) (by omega)).1; omega
    have hxy : x.length = y.length := by omega
    apply List.ext_getElem hxy
    intro i h1 h2
    have := (hp i h1).2
    simp only [List.getD_eq_getElem?_getD, List.getElem?_eq_getElem h1, List.getElem?_eq_getElem h2, Option.getD_some] at this
    exact this
  · rintro rfl
    rw [PK_self]
    exact mk_upto _ _ _ _ (by omega) (by omega)
end Go.Proofs.Ytdcldoembdifpaa.Q
