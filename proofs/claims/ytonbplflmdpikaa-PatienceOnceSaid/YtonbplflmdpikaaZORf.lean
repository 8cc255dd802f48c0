/- plain: what patience keeps is a row of pairs of the same class -/
import Derived.Test.YtonbplflmdpikaaZORd
import Derived.Test.YtonbplflmdpikaaZOQr
namespace Go.Proofs.Ytonbplflmdpikaa.Q
set_option linter.unusedVariables false
set_option linter.unusedSimpArgs false
open Go.RowKit Go.Proofs.Ytonbplflmdpikaa.X Go.Proofs.YtonbplflmdpikaaW.PrintWords Go.Proofs.YtonbplflmdpikaaW.PrintLast Go.Proofs.YtonbplflmdpikaaW.PrintMore
namespace P7
theorem lay_in (U : List Int) : ∀ (n m p : Nat) (v : Int) (P : List Int), P.length = p → n ≤ m → hp_lay n p v (P ++ (List.replicate m (-1) ++ U)) = P ++ (upto v n ++ (List.replicate (m - n) (-1) ++ U)) := by
  intro n
  induction n with
  | zero => intro m p v P h1 h2; simp [hp_lay, upto]
  | succ n ih =>
    intro m p v P h1 h2
    obtain ⟨m', rfl⟩ : ∃ m', m = m' + 1 := ⟨m - 1, by omega⟩
    subst h1
    rw [hp_lay, List.replicate_succ, List.cons_append, set_append_cons]
    have := ih m' (P.length + 1) (v + 1) (P ++ [v]) (by simp) (by omega)
    rw [List.append_assoc, List.singleton_append] at this
    rw [this, upto, List.append_assoc, List.singleton_append, List.cons_append, show m' + 1 - (n + 1) = m' - n from by omega]
theorem back_in (x y : List Int) (a c : Nat) (P : List Int) (hP : P.length = a) : ∀ q b d U, a ≤ b → c ≤ d →
    (pp_back x y a c q b d (P ++ (List.replicate (b - a) (-1) ++ U))).2.2 = P ++ (List.replicate ((pp_back x y a c q b d (P ++ (List.replicate (b - a) (-1) ++ U))).1 - a) (-1) ++ (upto (((pp_back x y a c q b d (P ++ (List.replicate (b - a) (-1) ++ U))).2.1 : Nat) : Int) (b - (pp_back x y a c q b d (P ++ (List.replicate (b - a) (-1) ++ U))).1) ++ U)) := by
  intro q
  induction q with
  | zero => intro b d U h1 h2; simp only [pp_back]; simp [upto]
  | succ q ih =>
    intro b d U h1 h2
    rw [pp_back]
    by_cases h : a < b ∧ c < d ∧ x.getD (b - 1) 0 = y.getD (d - 1) 0
    · rw [if_pos h]
      have e : (P ++ (List.replicate (b - a) (-1) ++ U)).set (b - 1) ((d - 1 : Nat) : Int) = P ++ (List.replicate (b - 1 - a) (-1) ++ (((d - 1 : Nat) : Int) :: U)) := by
        have e1 : b - a = (b - 1 - a) + 1 := by omega
        rw [e1, List.replicate_succ', List.append_assoc, List.singleton_append, ← List.append_assoc, ← List.append_assoc]
        have e2 : b - 1 = (P ++ List.replicate (b - 1 - a) (-1 : Int)).length := by rw [List.length_append, List.length_replicate, hP]; omega
        have := set_append_cons (P ++ List.replicate (b - 1 - a) (-1 : Int)) (-1) U ((d - 1 : Nat) : Int)
        rw [← e2] at this
        exact this
      rw [e]
      have i1 := ih (b - 1) (d - 1) (((d - 1 : Nat) : Int) :: U) (by omega) (by omega)
      have i2 := back_spec x y a c q (b - 1) (d - 1) (P ++ (List.replicate (b - 1 - a) (-1) ++ (((d - 1 : Nat) : Int) :: U))) (by omega) (by omega)
      generalize pp_back x y a c q (b - 1) (d - 1) (P ++ (List.replicate (b - 1 - a) (-1) ++ (((d - 1 : Nat) : Int) :: U))) = s at *
      obtain ⟨j1, j2, j3, j4, j5, _, _⟩ := i2
      rw [i1, show b - s.1 = (b - 1 - s.1) + 1 from by omega, upto_snoc, List.append_assoc, List.singleton_append, show ((s.2.1 : Nat) : Int) + ((b - 1 - s.1 : Nat) : Int) = ((d - 1 : Nat) : Int) from by omega]
    · rw [if_neg h]; simp [upto]
theorem lsl_in (c : Nat) (U : List Int) : ∀ (vs : List Int) (p : Nat) (P : List Int), P.length = p → ls_lay (c : Int) p vs (P ++ (List.replicate vs.length (-1) ++ U)) = P ++ (vs.map (sh c) ++ U) := by
  intro vs
  induction vs with
  | nil => intro p P h; rfl
  | cons v vs ih =>
    intro p P h
    subst h
    rw [ls_lay, List.length_cons, List.replicate_succ, List.cons_append, List.map_cons, List.cons_append]
    have e : (if v ≥ 0 then (P ++ (-1 : Int) :: (List.replicate vs.length (-1) ++ U)).set P.length (wrap64 ((c : Int) + v)) else P ++ (-1 : Int) :: (List.replicate vs.length (-1) ++ U)) = (P ++ [sh c v]) ++ (List.replicate vs.length (-1) ++ U) := by
      rw [List.append_assoc, List.singleton_append]
      unfold sh
      by_cases h : v ≥ 0
      · rw [if_pos h, if_pos h, set_append_cons]
      · rw [if_neg h, if_neg h]
    rw [e, ih (P.length + 1) (P ++ [sh c v]) (by simp), List.append_assoc, List.singleton_append]
theorem lastK_append : ∀ (p q : List Int) (l : Int), lastK (p ++ q) l = lastK q (lastK p l)
  | [], q, l => rfl
  | k :: p, q, l => by
    rw [List.cons_append, lastK, lastK]
    by_cases e : k = -1
    · rw [if_pos e, if_pos e]; exact lastK_append p q l
    · rw [if_neg e, if_neg e]; exact lastK_append p q k
theorem lastK_rep : ∀ (n : Nat) (l : Int), lastK (List.replicate n (-1)) l = l
  | 0, l => rfl
  | n + 1, l => by rw [List.replicate_succ, lastK, if_pos rfl]; exact lastK_rep n l
theorem lastK_up : ∀ (n : Nat) (j l : Int), 0 ≤ j → l ≤ j - 1 → lastK (upto j n) l ≤ j + n - 1
  | 0, j, l, _, h => by simp only [upto, lastK]; omega
  | n + 1, j, l, h, hl => by
    rw [upto, lastK, if_neg (by omega)]
    have := lastK_up n (j + 1) j (by omega) (by omega)
    omega
theorem row_rep (y : List Int) : ∀ (x : List Int) (l : Int), Row y x (List.replicate x.length (-1)) l
  | [], l => trivial
  | c :: x, l => by rw [List.length_cons, List.replicate_succ, Row, if_pos rfl]; exact row_rep y x l
theorem cut_split (x : List Int) (a m b : Nat) (h1 : a ≤ m) (h2 : m ≤ b) (h3 : b ≤ x.length) : pp_cut x a b = pp_cut x a m ++ pp_cut x m b := by
  unfold pp_cut
  have e : x.take b = x.take m ++ (x.take b).drop m := by
    have := (List.take_append_drop m (x.take b)).symm
    rw [List.take_take, Nat.min_eq_left h2] at this
    exact this
  have hl : a ≤ (x.take m).length := by rw [List.length_take]; omega
  conv => lhs; rw [e]
  rw [List.drop_append_of_le_length hl]
theorem cut_all (x : List Int) : pp_cut x 0 x.length = x := by simp [pp_cut]
theorem row_cut (x y : List Int) (a b c : Nat) (h1 : a ≤ b) (h2 : b ≤ x.length) (h3 : c + (b - a) ≤ y.length) (h : ∀ t, t < b - a → x.getD (a + t) 0 = y.getD (c + t) 0) : Row y (pp_cut x a b) (upto (c : Int) (b - a)) ((c : Int) - 1) := by
  have hl := cut_len x a b h2
  have := row_same y (pp_cut x a b) c (by omega) (by
    intro i hi
    rw [cut_getD x a b i (by omega)]
    exact h i (by omega))
  rw [hl] at this
  exact this
/-- a piece's part of the answer -/
structure Part (x y : List Int) (a b c d : Nat) (M : List Int) : Prop where
  len : M.length = b - a
  row : Row y (pp_cut x a b) M ((c : Int) - 1)
  last : lastK M ((c : Int) - 1) < d
/-- two parts, with a pair between them -/
theorem Part.pair {x y : List Int} {u i v j B D : Nat} {M1 M2 : List Int} (h1 : Part x y u i v j M1) (h2 : Part x y (i + 1) B (j + 1) D M2) (hui : u ≤ i) (hi : i < B) (hB : B ≤ x.length) (hvj : v ≤ j) (hj : j < D) (hD : D ≤ y.length) (he : x.getD i 0 = y.getD j 0) :
    Part x y u B v D (M1 ++ ((j : Int) :: M2)) := by
  have l1 := h1.len
  have l2 := h2.len
  have r1 := h1.last
  have r2 := h2.last
  have e1 : pp_cut x i B = x.getD i 0 :: pp_cut x (i + 1) B := by
    rw [cut_split x i (i + 1) B (by omega) (by omega) hB]
    have hl := cut_len x i (i + 1) (by omega)
    have hg := cut_getD x i (i + 1) 0 (by omega)
    rw [Nat.add_zero] at hg
    match hm : pp_cut x i (i + 1), hl with
    | [z], _ => rw [hm] at hg; simp only [List.getD_cons_zero] at hg; rw [hg]; rfl
    | [], h => simp at h
    | _ :: _ :: _, h => simp at h
  have e2 : lastK ((j : Int) :: M2) (lastK M1 ((v : Int) - 1)) = lastK M2 (j : Int) := by rw [lastK, if_neg (by omega)]
  refine ⟨by rw [List.length_append, List.length_cons]; omega, ?_, ?_⟩
  · rw [cut_split x u i B hui (by omega) hB, e1]
    refine Go.Proofs.Ytonbplflmdpikaa.Q.Row.append _ _ _ _ _ h1.row ?_
    rw [Row, if_neg (by omega)]
    refine ⟨r1, by omega, by rw [Int.toNat_natCast]; exact he, ?_⟩
    have := h2.row
    rw [show ((j + 1 : Nat) : Int) - 1 = (j : Int) from by omega] at this
    exact this
  · rw [lastK_append, e2]
    rw [show ((j + 1 : Nat) : Int) - 1 = (j : Int) from by omega] at r2
    exact r2
theorem ch_ge {x y : List Int} {a c B D : Nat} : ∀ {ps : List Pr} {u v : Nat}, Ch x y a c B D ps u v → ∀ p ∈ ps, u ≤ a + p.f0.toNat := by
  intro ps
  induction ps with
  | nil => intro u v h p hp; cases hp
  | cons q ps ih =>
    intro u v h p hp
    obtain ⟨i, j, rfl, c1, c2, c3, c4, c5, c6⟩ := h
    cases hp with
    | head => simp only [Int.toNat_natCast]; exact c1
    | tail _ hp => have := ih c6 p hp; omega
theorem row_in (x y : List Int) (f a c B D : Nat) (hB : B ≤ x.length) (hD : D ≤ y.length) (hf : B - a ≤ f) (U : List Int)
    (IH : ∀ a b c d (P U : List Int), b - a < f → a ≤ b → b ≤ x.length → c ≤ d → d ≤ y.length → P.length = a → ∃ M, pt x y f a b c d (P ++ (List.replicate (b - a) (-1) ++ U)) = P ++ (M ++ U) ∧ Part x y a b c d M) :
    ∀ (ps : List Pr) (u v : Nat) (P : List Int), a ≤ u → Ch x y a c B D ps u v → (ps = [] → B - u < f) → P.length = u →
      ∃ M, pt_row (pt x y f) a c B D ps u v (P ++ (List.replicate (B - u) (-1) ++ U)) = P ++ (M ++ U) ∧ Part x y u B v D M ∧ ∀ p ∈ ps, M.getD (a + p.f0.toNat - u) 0 = (c : Int) + p.f1 := by
  intro ps
  induction ps with
  | nil =>
    intro u v P hu hc hp hP
    obtain ⟨c1, c2⟩ := hc
    obtain ⟨M, e, p⟩ := IH u B v D P U (hp rfl) c1 hB c2 hD hP
    exact ⟨M, e, p, fun p hp => by cases hp⟩
  | cons p ps ih =>
    intro u v P hu hc hp hP
    have hge := ch_ge hc
    obtain ⟨i, j, rfl, c1, c2, c3, c4, c5, c6⟩ := hc
    obtain ⟨s, hs⟩ : ∃ s, s = a + i := ⟨_, rfl⟩
    obtain ⟨t, ht⟩ : ∃ t, t = c + j := ⟨_, rfl⟩
    simp only [pt_row, Int.toNat_natCast]
    rw [← hs, ← ht, show (c : Int) + (j : Int) = (t : Int) from by omega]
    rw [← hs, ← ht] at c5 c6
    have e1 : (P ++ (List.replicate (B - u) (-1) ++ U)).set s (t : Int) = P ++ (List.replicate (s - u) (-1) ++ ((t : Int) :: (List.replicate (B - (s + 1)) (-1) ++ U))) := by
      rw [show B - u = (s - u) + (1 + (B - (s + 1))) from by omega, ← List.replicate_append_replicate, ← List.replicate_append_replicate, List.append_assoc, List.append_assoc, List.replicate_one, List.singleton_append, ← List.append_assoc]
      have e2 : s = (P ++ List.replicate (s - u) (-1 : Int)).length := by rw [List.length_append, List.length_replicate, hP]; omega
      have := set_append_cons (P ++ List.replicate (s - u) (-1 : Int)) (-1) (List.replicate (B - (s + 1)) (-1) ++ U) (t : Int)
      rw [← e2] at this
      rw [this, List.append_assoc]
    rw [e1]
    obtain ⟨M1, e3, p1⟩ := IH u s v t P ((t : Int) :: (List.replicate (B - (s + 1)) (-1) ++ U)) (by omega) (by omega) (by omega) (by omega) (by omega) hP
    rw [e3]
    have l1 := p1.len
    have e4 : P ++ (M1 ++ ((t : Int) :: (List.replicate (B - (s + 1)) (-1) ++ U))) = (P ++ (M1 ++ [(t : Int)])) ++ (List.replicate (B - (s + 1)) (-1) ++ U) := by simp only [List.append_assoc, List.singleton_append]
    obtain ⟨M2, e5, p2, h2⟩ := ih (s + 1) (t + 1) (P ++ (M1 ++ [(t : Int)])) (by omega) c6 (fun _ => by omega) (by rw [List.length_append, List.length_append, List.length_singleton]; omega)
    rw [e4, e5]
    have l2 := p2.len
    have hge2 := ch_ge c6
    refine ⟨M1 ++ ((t : Int) :: M2), by simp only [List.append_assoc, List.singleton_append, List.cons_append, List.nil_append], p1.pair p2 (by omega) (by omega) hB (by omega) (by omega) hD c5, ?_⟩
    intro q hq
    cases hq with
    | head =>
      simp only [Int.toNat_natCast]
      rw [← hs, getD_here M1 (t : Int) M2 (s - u) l1]
      omega
    | tail _ hq =>
      have g := hge2 q hq
      have := h2 q hq
      rw [← this]
      have e6 : a + q.f0.toNat - u = (s - u) + 1 + (a + q.f0.toNat - (s + 1)) := by omega
      rw [e6, getD_there M1 (t : Int) M2 (s - u) _ l1]
section
variable (x y : List Int) (hy : y.length ≤ 600)
include hy
theorem ptr_in (f a c b d : Nat) (P U : List Int) (h1 : a ≤ b) (h2 : b ≤ x.length) (h3 : c ≤ d) (h4 : d ≤ y.length) (hP : P.length = a) (hf : b - a ≤ f)
    (IH : ∀ a b c d (P U : List Int), b - a < f → a ≤ b → b ≤ x.length → c ≤ d → d ≤ y.length → P.length = a → ∃ M, pt x y f a b c d (P ++ (List.replicate (b - a) (-1) ++ U)) = P ++ (M ++ U) ∧ Part x y a b c d M) :
    ∃ M, ptr x y (pt x y f) a c (b, d, P ++ (List.replicate (b - a) (-1) ++ U)) = P ++ (M ++ U) ∧ Part x y a b c d M ∧ (a < b → c < d → ∀ p ∈ trow (pp_cut x a b) (pp_cut y c d), M.getD p.f0.toNat 0 = (c : Int) + p.f1) := by
  have lX := cut_len x a b h2
  have lY := cut_len y c d h4
  unfold ptr
  dsimp only
  by_cases e1 : a = b ∨ c = d
  · rw [if_pos e1]
    refine ⟨List.replicate (b - a) (-1), rfl, ⟨by simp, ?_, ?_⟩, fun q1 q2 => by omega⟩
    · have := row_rep y (pp_cut x a b) ((c : Int) - 1)
      rw [lX] at this
      exact this
    · rw [lastK_rep]; omega
  rw [if_neg e1]
  by_cases hr : (trow (pp_cut x a b) (pp_cut y c d)).length = 0
  · rw [if_pos hr]
    have hk := row_kp (pp_cut y c d) (pp_cut x a b) (pp_cut y c d) 0 rfl
    simp only [Int.natCast_zero] at hk
    obtain ⟨s1, s2, s3⟩ := row_shift y (pp_cut y c d) c (by omega) (by omega) (fun i hi => cut_getD y c d i (by omega)) (pp_cut x a b) _ (0 - 1) (by omega) hk
    refine ⟨(kp (pp_cut x a b) (pp_cut y c d) 0).map (sh c), ?_, ⟨by rw [List.length_map, kp_len, lX], ?_, ?_⟩, ?_⟩
    · have := lsl_in c U (kp (pp_cut x a b) (pp_cut y c d) 0) a P hP
      rw [kp_len, lX] at this
      exact this
    · exact s1
    · have := s3 (by omega)
      rw [lY] at this
      rw [show (c : Int) - 1 = (c : Int) + (0 - 1) from by omega]
      omega
    · intro _ _ p hp
      rw [List.eq_nil_of_length_eq_zero hr] at hp
      cases hp
  · rw [if_neg hr]
    obtain ⟨M, e, p, h⟩ := row_in x y f a c b d h2 h4 hf U IH (trow (pp_cut x a b) (pp_cut y c d)) a c P (Nat.le_refl _) (trow_ch x y a c b d h1 h2 h3 h4) (fun e => by rw [e] at hr; exact absurd rfl hr) hP
    refine ⟨M, e, p, ?_⟩
    intro _ _ q hq
    have := h q hq
    rw [Nat.add_sub_cancel_left] at this
    exact this
theorem pt_in0 (f a b c d : Nat) (P U : List Int) (hf : b - a ≤ f) (h1 : a ≤ b) (h2 : b ≤ x.length) (h3 : c ≤ d) (h4 : d ≤ y.length) (hP : P.length = a)
    (IH : ∀ a b c d (P U : List Int), b - a < f → a ≤ b → b ≤ x.length → c ≤ d → d ≤ y.length → P.length = a → ∃ M, pt x y f a b c d (P ++ (List.replicate (b - a) (-1) ++ U)) = P ++ (M ++ U) ∧ Part x y a b c d M) :
    ∃ M K : List Int, pt x y (f + 1) a b c d (P ++ (List.replicate (b - a) (-1) ++ U)) = P ++ (M ++ U) ∧ Part x y a b c d M ∧ M = upto (c : Int) (fr x y b d (b - a) a c) ++ K ∧
      (a < b → c < d → x.getD a 0 ≠ y.getD c 0 → x.getD (b - 1) 0 ≠ y.getD (d - 1) 0 → ∀ p ∈ trow (pp_cut x a b) (pp_cut y c d), M.getD p.f0.toNat 0 = (c : Int) + p.f1) := by
  rw [pt]
  obtain ⟨f1, f2, f3⟩ := fr_spec x y b d (b - a) a c h1 h3
  have hfr0 : x.getD a 0 ≠ y.getD c 0 → fr x y b d (b - a) a c = 0 := by
    intro h
    cases b - a with
    | zero => rfl
    | succ q => rw [fr, if_neg (fun g => h g.2.2)]
  generalize fr x y b d (b - a) a c = n at *
  rw [lay_in U n (b - a) a (c : Int) P hP (by omega), ← List.append_assoc, show b - a - n = b - (a + n) from by omega]
  have hP1 : (P ++ upto (c : Int) n).length = a + n := by rw [List.length_append, upto_len]; omega
  have s1 := back_in x y (a + n) (c + n) (P ++ upto (c : Int) n) hP1 (b - (a + n)) b d U (by omega) (by omega)
  have s2 := back_spec x y (a + n) (c + n) (b - (a + n)) b d ((P ++ upto (c : Int) n) ++ (List.replicate (b - (a + n)) (-1) ++ U)) (by omega) (by omega)
  have s3 : x.getD (b - 1) 0 ≠ y.getD (d - 1) 0 → pp_back x y (a + n) (c + n) (b - (a + n)) b d ((P ++ upto (c : Int) n) ++ (List.replicate (b - (a + n)) (-1) ++ U)) = (b, d, (P ++ upto (c : Int) n) ++ (List.replicate (b - (a + n)) (-1) ++ U)) := by
    intro h
    cases b - (a + n) with
    | zero => rfl
    | succ q => rw [pp_back, if_neg (fun g => h g.2.2)]
  generalize pp_back x y (a + n) (c + n) (b - (a + n)) b d ((P ++ upto (c : Int) n) ++ (List.replicate (b - (a + n)) (-1) ++ U)) = s at *
  obtain ⟨b', d', T'⟩ := s
  dsimp only at *
  obtain ⟨b1, b2, b3, b4, b5, _, b7⟩ := s2
  have s3' : x.getD (b - 1) 0 ≠ y.getD (d - 1) 0 → b' = b ∧ d' = d := by
    intro h
    have := s3 h
    injection this with e1 e2
    injection e2 with e2 e3
    exact ⟨e1, e2⟩
  clear s3
  rw [s1]
  obtain ⟨K, e, p, hrow⟩ := ptr_in x y hy f (a + n) (c + n) b' d' (P ++ upto (c : Int) n) (upto (d' : Int) (b - b') ++ U) b1 (by omega) b3 (by omega) hP1 (by omega) IH
  rw [e]
  have pl := p.len
  have plast := p.last
  have hM : Row y (pp_cut x a (a + n)) (upto (c : Int) n) ((c : Int) - 1) := by
    have := row_cut x y a (a + n) c (by omega) (by omega) (by omega) (fun t ht => f3 t (by omega))
    rw [show a + n - a = n from by omega] at this
    exact this
  have hlu : lastK (upto (c : Int) n) ((c : Int) - 1) = ((c + n : Nat) : Int) - 1 := by rw [lastK_upto n (c : Int) (by omega)]; omega
  refine ⟨upto (c : Int) n ++ (K ++ upto (d' : Int) (b - b')), K ++ upto (d' : Int) (b - b'), by simp only [List.append_assoc], ⟨?_, ?_, ?_⟩, rfl, ?_⟩
  · rw [List.length_append, List.length_append, upto_len, upto_len]; omega
  · rw [cut_split x a (a + n) b (by omega) (by omega) h2, cut_split x (a + n) b' b (by omega) (by omega) h2]
    refine Go.Proofs.Ytonbplflmdpikaa.Q.Row.append _ _ _ _ _ hM ?_
    rw [hlu]
    refine Go.Proofs.Ytonbplflmdpikaa.Q.Row.append _ _ _ _ _ p.row ?_
    refine Go.Proofs.Ytonbplflmdpikaa.Q.Row.mono _ _ _ _ (show _ ≤ (d' : Int) - 1 by omega) ?_
    exact row_cut x y b' b d' (by omega) h2 (by omega) b7
  · rw [lastK_append, lastK_append, hlu]
    have := lastK_up (b - b') (d' : Int) (lastK K (((c + n : Nat) : Int) - 1)) (by omega) (by omega)
    omega
  · intro g1 g2 g3 g4 q hq
    have hn := hfr0 g3
    obtain ⟨e1, e2⟩ := s3' g4
    subst e1 e2
    subst hn
    simp only [Nat.add_zero] at hrow
    have hz := hrow g1 g2 q hq
    obtain ⟨i, j, rfl, i1, _⟩ := trow_isP _ _ q hq
    rw [cut_len x a b' h2] at i1
    simp only [Int.toNat_natCast] at hz ⊢
    rw [Nat.sub_self]
    simp only [upto, List.nil_append, List.append_nil]
    exact hz
theorem pt_in : ∀ f a b c d (P U : List Int), b - a < f → a ≤ b → b ≤ x.length → c ≤ d → d ≤ y.length → P.length = a → ∃ M, pt x y f a b c d (P ++ (List.replicate (b - a) (-1) ++ U)) = P ++ (M ++ U) ∧ Part x y a b c d M := by
  intro f
  induction f with
  | zero => intro a b c d P U h; omega
  | succ f ih =>
    intro a b c d P U hf h1 h2 h3 h4 hP
    obtain ⟨M, K, e, p, _⟩ := pt_in0 x y hy f a b c d P U (by omega) h1 h2 h3 h4 hP ih
    exact ⟨M, e, p⟩
end
section
variable (x y : List Int) (hx : x.length ≤ 600) (hy : y.length ≤ 600)
include hx hy
/-- what is kept of two texts -/
def PK : List Int := pt x y (x.length + 1) 0 x.length 0 y.length (List.replicate x.length (-1))
theorem PK_all : Part x y 0 x.length 0 y.length (PK x y) ∧ (∃ K, PK x y = upto 0 (fr x y x.length y.length x.length 0 0) ++ K) ∧
    (0 < x.length → 0 < y.length → x.getD 0 0 ≠ y.getD 0 0 → x.getD (x.length - 1) 0 ≠ y.getD (y.length - 1) 0 → ∀ p ∈ trow x y, (PK x y).getD p.f0.toNat 0 = p.f1) := by
  obtain ⟨M, K, e, p, hK, h⟩ := pt_in0 x y hy x.length 0 x.length 0 y.length [] [] (by omega) (by omega) (by omega) (by omega) (by omega) rfl (pt_in x y hy x.length)
  simp only [List.nil_append, List.append_nil, Nat.sub_zero, cut_all, Int.natCast_zero, Int.zero_add] at e hK h
  unfold PK
  rw [e]
  exact ⟨p, ⟨K, hK⟩, h⟩
theorem PK_part : Part x y 0 x.length 0 y.length (PK x y) := (PK_all x y hx hy).1
theorem PK_row : Row y x (PK x y) (-1) := by
  have h := (PK_part x y hx hy).row
  rw [cut_all] at h
  exact h
theorem PK_len : (PK x y).length = x.length := by have := (PK_part x y hx hy).len; omega
end
end P7
end Go.Proofs.Ytonbplflmdpikaa.Q
