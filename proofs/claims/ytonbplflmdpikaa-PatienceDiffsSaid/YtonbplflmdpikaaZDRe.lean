/- plain: what the reference of chapter 7 keeps -/
import Derived.Test.YtonbplflmdpikaaZDRd
import Derived.Test.YtonbplflmdpikaaZDQd
import Derived.Test.YtonbplflmdpikaaZDXx31
import Derived.Test.YtonbplflmdpikaaZDXx32
import Derived.Test.YtonbplflmdpikaaZDXx35
import Derived.Test.YtonbplflmdpikaaZDXx36
import Derived.Test.YtonbplflmdpikaaZDXx38
namespace Go.Proofs.Ytonbplflmdpikaa.Q
set_option linter.unusedVariables false
set_option linter.unusedSimpArgs false
open Go.RowKit Go.Proofs.Ytonbplflmdpikaa.X Go.Proofs.YtonbplflmdpikaaW.PrintWords Go.Proofs.YtonbplflmdpikaaW.PrintLast Go.Proofs.YtonbplflmdpikaaW.PrintMore
namespace P7
theorem trim_b (x y : List Int) (a c : Nat) : ∀ q b d T, b - a = q → a ≤ b → c ≤ d → b ≤ x.length → d ≤ y.length → T.length = x.length → x.length ≤ 1000000 → y.length ≤ 1000000 →
    Ev (fun k => redlineref07_Trim.l1 k T x y (a : Int) (b : Int) (c : Int) (d : Int)) ((a : Int), (((pp_back x y a c q b d T).1 : Nat) : Int), (c : Int), (((pp_back x y a c q b d T).2.1 : Nat) : Int), (pp_back x y a c q b d T).2.2) := by
  intro q
  induction q with
  | zero =>
    intro b d T hq h1 h2 h3 h4 hT hx hy
    apply Ev_unfold
    simp only [redlineref07_Trim.l1, if_neg (show ¬ (a : Int) < (b : Int) by omega), pp_back]
    exact Ev.now _
  | succ q ih =>
    intro b d T hq h1 h2 h3 h4 hT hx hy
    apply Ev_unfold
    have o0 : a < b := by omega
    have o1 : 1 ≤ b := by omega
    have o2 : b < 4611686018427387904 := by omega
    simp only [redlineref07_Trim.l1, if_pos (show (a : Int) < (b : Int) by omega)]
    rw [pp_back]
    by_cases hc : c < d
    · have o3 : 1 ≤ d := by omega
      have o4 : d < 4611686018427387904 := by omega
      have o5 : ((b - 1 : Nat) : Int) < (T.length : Int) := by omega
      simp only [if_pos (show (c : Int) < (d : Int) by omega), wone b o1 o2, wone d o3 o4, if_pos (show (0 : Int) ≤ ((b - 1 : Nat) : Int) by omega), if_pos (show ((b - 1 : Nat) : Int) < (x.length : Int) by omega), if_pos (show (0 : Int) ≤ ((d - 1 : Nat) : Int) by omega), if_pos (show ((d - 1 : Nat) : Int) < (y.length : Int) by omega), rd_nat]
      by_cases h : x.getD (b - 1) 0 = y.getD (d - 1) 0
      · simp only [if_pos h, if_pos o5, Int.toNat_natCast]
        rw [if_pos ⟨o0, hc, h⟩]
        exact ih (b - 1) (d - 1) _ (by omega) (by omega) (by omega) (by omega) (by omega) (by rw [List.length_set]; exact hT) hx hy
      · simp only [if_neg h]
        rw [if_neg (fun p => h p.2.2)]
        exact Ev.now _
    · simp only [if_neg (show ¬ (c : Int) < (d : Int) by omega)]
      rw [if_neg (fun p => hc p.2.1)]
      exact Ev.now _
set_option maxHeartbeats 400000 in
theorem trim_f (x y : List Int) (b d : Nat) (R : Int × Int × Int × Int × List Int) : ∀ q a c T, b - a = q → a ≤ b → c ≤ d → b ≤ x.length → d ≤ y.length → T.length = x.length → x.length ≤ 1000000 → y.length ≤ 1000000 →
    Ev (fun k => redlineref07_Trim.l1 k (hp_lay (fr x y b d q a c) a (c : Int) T) x y ((a + fr x y b d q a c : Nat) : Int) (b : Int) ((c + fr x y b d q a c : Nat) : Int) (d : Int)) R →
    Ev (fun k => redlineref07_Trim.l0 k T x y (a : Int) (b : Int) (c : Int) (d : Int)) R := by
  intro q
  induction q with
  | zero =>
    intro a c T hq h1 h2 h3 h4 hT hx hy H
    apply Ev_unfold
    simp only [redlineref07_Trim.l0, if_neg (show ¬ (a : Int) < (b : Int) by omega)]
    apply Ev_unfold
    simp only [redlineref07_Trim.j1]
    simp only [fr, Nat.add_zero, hp_lay] at H
    exact H
  | succ q ih =>
    intro a c T hq h1 h2 h3 h4 hT hx hy H
    have hstop : ¬ (a < b ∧ c < d ∧ x.getD a 0 = y.getD c 0) → Ev (fun k => redlineref07_Trim.j1 k T x y (a : Int) (b : Int) (c : Int) (d : Int)) R := by
      intro hn
      apply Ev_unfold
      simp only [redlineref07_Trim.j1]
      rw [fr, if_neg hn] at H
      simp only [Nat.add_zero, hp_lay] at H
      exact H
    apply Ev_unfold
    simp only [redlineref07_Trim.l0, if_pos (show (a : Int) < (b : Int) by omega)]
    by_cases hc : c < d
    · simp only [if_pos (show (c : Int) < (d : Int) by omega), if_pos (show (0 : Int) ≤ (a : Int) by omega), if_pos (show (0 : Int) ≤ (c : Int) by omega), if_pos (show (a : Int) < (x.length : Int) by omega), if_pos (show (c : Int) < (y.length : Int) by omega), rd_nat]
      by_cases h : x.getD a 0 = y.getD c 0
      · have o1 : (a : Int) < (T.length : Int) := by omega
        have o2 : a < 4611686018427387904 := by omega
        have o3 : c < 4611686018427387904 := by omega
        have o4 : a < b := by omega
        rw [fr, if_pos ⟨o4, hc, h⟩] at H
        simp only [hp_lay] at H
        simp only [if_pos h, if_pos o1, wadd a o2, wadd c o3, Int.toNat_natCast]
        refine ih (a + 1) (c + 1) (T.set a (c : Int)) (by omega) (by omega) (by omega) h3 h4 (by rw [List.length_set]; exact hT) hx hy ?_
        rw [show a + 1 + fr x y b d q (a + 1) (c + 1) = a + (fr x y b d q (a + 1) (c + 1) + 1) from by omega, show c + 1 + fr x y b d q (a + 1) (c + 1) = c + (fr x y b d q (a + 1) (c + 1) + 1) from by omega]
        exact H
      · simp only [if_neg h]
        exact hstop (fun p => h p.2.2)
    · simp only [if_neg (show ¬ (c : Int) < (d : Int) by omega)]
      exact hstop (fun p => hc p.2.1)
theorem trim_ref (x y : List Int) (a b c d : Nat) (T : List Int) (h1 : a ≤ b) (h2 : c ≤ d) (h3 : b ≤ x.length) (h4 : d ≤ y.length) (hT : T.length = x.length) (hx : x.length ≤ 1000000) (hy : y.length ≤ 1000000) (n : Nat) (hn : n = fr x y b d (b - a) a c) (s : Nat × Nat × List Int) (hs : s = pp_back x y (a + n) (c + n) (b - (a + n)) b d (hp_lay n a (c : Int) T)) :
    Ev (fun k => redlineref07_Trim.f k T x y (a : Int) (b : Int) (c : Int) (d : Int)) (((a + n : Nat) : Int), (s.1 : Int), ((c + n : Nat) : Int), (s.2.1 : Int), s.2.2) := by
  unfold redlineref07_Trim.f
  obtain ⟨f1, f2, _⟩ := fr_spec x y b d (b - a) a c h1 h2
  refine trim_f x y b d _ (b - a) a c T rfl h1 h2 h3 h4 hT hx hy ?_
  rw [← hn] at f1 f2 ⊢
  rw [hs]
  exact trim_b x y (a + n) (c + n) (b - (a + n)) b d (hp_lay n a (c : Int) T) rfl f1 f2 h3 h4 (by rw [hp_lay_len]; exact hT) hx hy
theorem least8_ref (x y : List Int) (a b c d : Nat) (hab : a ≤ b) (hb : b ≤ x.length) (hcd : c ≤ d) (hd : d ≤ y.length) (hx : x.length ≤ 4096) (hy : y.length ≤ 4096) (T : List Int) (hT : T.length = x.length) :
    Ev (fun k => redlineref07_Least.f k T x y (a : Int) (b : Int) (c : Int) (d : Int)) (ls_lay (c : Int) a (kp (pp_cut x a b) (pp_cut y c d) 0) T) := by
  unfold redlineref07_Least.f
  rw [show (fun k => if (0 ≤ (a : Int) ∧ (a : Int) ≤ (b : Int) ∧ (b : Int) ≤ (x.length : Int) ∧ 0 ≤ (c : Int) ∧ (c : Int) ≤ (d : Int) ∧ (d : Int) ≤ (y.length : Int)) ∧ (b : Int) ≤ (T.length : Int) ∧ (b : Int) ≤ 1000000 then
      (redlineref06_Keeps.f k ((x.take (b : Int).toNat).drop (a : Int).toNat) ((y.take (d : Int).toNat).drop (c : Int).toNat)).bind fun t => if t.length ≤ (b : Int).toNat - (a : Int).toNat then some (ls_lay (c : Int) (a : Int).toNat t T) else none
    else none) = fun k => (redlineref06_Keeps.f k (pp_cut x a b) (pp_cut y c d)).bind fun t => if t.length ≤ b - a then some (ls_lay (c : Int) a t T) else none from by
      funext k
      rw [if_pos (by omega)]
      simp only [Int.toNat_natCast, pp_cut]]
  have lX := cut_len x a b hb
  have lY := cut_len y c d hd
  refine Ev.bind (keeps_f _ _ (by omega) (by omega)) ?_
  simp only [if_pos (show (kp (pp_cut x a b) (pp_cut y c d) 0).length ≤ b - a by rw [kp_len]; omega)]
  exact Ev.now _
section
variable (x y : List Int) (hx : x.length ≤ 300) (hy : y.length ≤ 300)
include hx hy
set_option maxHeartbeats 400000 in
theorem row_ref (f a c B D : Nat) (hB : B ≤ x.length) (hD : D ≤ y.length) (hf : B - a ≤ f) (row : List Pr) (hrow : row.length ≤ 300)
    (IH : ∀ a b c d T, b - a < f → a ≤ b → b ≤ x.length → c ≤ d → d ≤ y.length → T.length = x.length → (pt x y f a b c d T).length = x.length ∧ Ev (fun k => redlineref07_piece.f k T x y (a : Int) (b : Int) (c : Int) (d : Int)) (pt x y f a b c d T)) :
    ∀ (q i u v : Nat) (T : List Int), i + q = row.length → a ≤ u → Ch x y a c B D (row.drop i) u v → (q = 0 → B - u < f) → T.length = x.length →
      (pt_row (pt x y f) a c B D (row.drop i) u v T).length = x.length ∧ Ev (fun k => redlineref07_piece.l0 k T x y (row.map toR) (u : Int) (v : Int) (i : Int) (a : Int) (B : Int) (c : Int) (D : Int)) (pt_row (pt x y f) a c B D (row.drop i) u v T) := by
  intro q
  induction q with
  | zero =>
    intro i u v T hi hu hc hp hT
    rw [List.drop_eq_nil_of_le (by omega)] at hc ⊢
    obtain ⟨c1, c2⟩ := hc
    obtain ⟨l1, p1⟩ := IH u B v D T (hp rfl) c1 hB c2 hD hT
    refine ⟨l1, ?_⟩
    apply Ev_unfold
    simp only [redlineref07_piece.l0, List.length_map, if_neg (show ¬ (i : Int) < (row.length : Int) by omega)]
    refine Ev.bind p1 ?_
    exact Ev.now _
  | succ q ih =>
    intro i u v T hi hu hc hp hT
    have e := dropP row i (by omega)
    rw [e] at hc ⊢
    obtain ⟨s, t, hst, c1, c2, c3, c4, c5, c6⟩ := hc
    rw [hst]
    obtain ⟨l1, p1⟩ := IH u (a + s) v (c + t) (T.set (a + s) ((c : Int) + (t : Int))) (by omega) (by omega) (by omega) (by omega) (by omega) (by rw [List.length_set]; exact hT)
    obtain ⟨l2, p2⟩ := ih (i + 1) (a + s + 1) (c + t + 1) _ (by omega) (by omega) c6 (fun _ => by omega) l1
    simp only [pt_row, Int.toNat_natCast]
    refine ⟨l2, ?_⟩
    apply Ev_unfold
    have o1 : a < 1000000 := by omega
    have o2 : s < 1000000 := by omega
    have o3 : c < 1000000 := by omega
    have o4 : t < 1000000 := by omega
    have o5 : i < 4611686018427387904 := by omega
    have o6 : a + s < 4611686018427387904 := by omega
    have o7 : c + t < 4611686018427387904 := by omega
    have g1 : (i : Int) < (row.length : Int) := by omega
    have g2 : ((a + s : Nat) : Int) < (T.length : Int) := by omega
    simp only [redlineref07_piece.l0, List.length_map, if_pos g1, if_pos (show (0 : Int) ≤ (i : Int) by omega), rdR_map, hst, toR, wplus a s o1 o2, wplus c t o3 o4, if_pos (show (0 : Int) ≤ ((a + s : Nat) : Int) by omega), if_pos g2, Int.toNat_natCast, wadd (a + s) o6, wadd (c + t) o7, wadd i o5]
    rw [show (c : Int) + (t : Int) = ((c + t : Nat) : Int) from by omega] at p1 p2 ⊢
    exact Ev.bind p1 p2
set_option maxHeartbeats 400000 in
theorem piece_ref : ∀ f a b c d T, b - a < f → a ≤ b → b ≤ x.length → c ≤ d → d ≤ y.length → T.length = x.length → (pt x y f a b c d T).length = x.length ∧ Ev (fun k => redlineref07_piece.f k T x y (a : Int) (b : Int) (c : Int) (d : Int)) (pt x y f a b c d T) := by
  intro f
  induction f with
  | zero => intro a b c d T h; omega
  | succ f ih =>
    intro a b c d T hf h1 h2 h3 h4 hT
    obtain ⟨n, hn⟩ : ∃ n, n = fr x y b d (b - a) a c := ⟨_, rfl⟩
    obtain ⟨s, hs⟩ : ∃ s, s = pp_back x y (a + n) (c + n) (b - (a + n)) b d (hp_lay n a (c : Int) T) := ⟨_, rfl⟩
    have ht := trim_ref x y a b c d T h1 h3 h2 h4 hT (by omega) (by omega) n hn s hs
    obtain ⟨f1, f2, _⟩ := fr_spec x y b d (b - a) a c h1 h3
    obtain ⟨b1, b2, b3, b4, b5, b6, _⟩ := back_spec x y (a + n) (c + n) (b - (a + n)) b d (hp_lay n a (c : Int) T) (by omega) (by omega)
    rw [hp_lay_len] at b6
    rw [pt, ← hn, ← hs]
    rw [← hs] at b1 b2 b3 b4 b5 b6
    rw [← hn] at f1 f2
    clear hs hn
    obtain ⟨b', d', T'⟩ := s
    dsimp only at *
    obtain ⟨a', ha'⟩ : ∃ a', a' = a + n := ⟨_, rfl⟩
    obtain ⟨c', hc'⟩ : ∃ c', c' = c + n := ⟨_, rfl⟩
    rw [← ha', ← hc'] at ht
    rw [← ha'] at f1 b1 ⊢
    rw [← hc'] at f2 b3 ⊢
    have lX := cut_len x a' b' (by omega)
    have lY := cut_len y c' d' (by omega)
    have main : (ptr x y (pt x y f) a' c' (b', d', T')).length = x.length ∧ ∀ fl : Bool, (fl = true ↔ a' = b' ∨ c' = d') → Ev (fun k => redlineref07_piece.j0 k T' x y fl (a' : Int) (b' : Int) (c' : Int) (d' : Int)) (ptr x y (pt x y f) a' c' (b', d', T')) := by
      unfold ptr
      dsimp only
      by_cases e1 : a' = b' ∨ c' = d'
      · rw [if_pos e1]
        refine ⟨by omega, ?_⟩
        intro fl hfl
        have : fl = true := hfl.2 e1
        subst this
        apply Ev_unfold
        simp only [redlineref07_piece.j0, if_true]
        exact Ev.now _
      rw [if_neg e1]
      have hu := uniq_ref (pp_cut x a' b') (pp_cut y c' d') (by omega) (by omega)
      rw [← rows_eq] at hu
      have hul := rows_len (pp_cut x a' b') (pp_cut y c' d') (pp_cut x a' b').length 0
      have hlong := ref_long (pu_rows (pp_cut x a' b') (pp_cut y c' d') (pp_cut x a' b').length 0) (by omega)
      rw [show lrow (pu_rows (pp_cut x a' b') (pp_cut y c' d') (pp_cut x a' b').length 0) = trow (pp_cut x a' b') (pp_cut y c' d') from rfl] at hlong
      have htl := trow_len (pp_cut x a' b') (pp_cut y c' d')
      have hch := trow_ch x y a' c' b' d' b1 (by omega) b3 (by omega)
      have hj0 : ∀ R, Ev (fun k => (fun t309 : List S26 => (if (t309.length : Int) = 0 then ((redlineref07_Least.f k T' x y (a' : Int) (b' : Int) (c' : Int) (d' : Int)).bind fun t312 => (some t312)) else (redlineref07_piece.l0 k T' x y t309 (a' : Int) (c' : Int) 0 (a' : Int) (b' : Int) (c' : Int) (d' : Int)))) ((trow (pp_cut x a' b') (pp_cut y c' d')).map toR)) R →
          Ev (fun k => redlineref07_piece.j0 k T' x y false (a' : Int) (b' : Int) (c' : Int) (d' : Int)) R := by
        intro R H
        apply Ev_unfold
        simp only [redlineref07_piece.j0, Bool.false_eq_true, if_false, if_pos (show (0 : Int) ≤ (a' : Int) by omega), if_pos (show (a' : Int) ≤ (b' : Int) by omega), if_pos (show (b' : Int) ≤ (x.length : Int) by omega), if_pos (show (0 : Int) ≤ (c' : Int) by omega), if_pos (show (c' : Int) ≤ (d' : Int) by omega), if_pos (show (d' : Int) ≤ (y.length : Int) by omega), Int.toNat_natCast]
        refine Ev.bind hu ?_
        exact Ev.bind (f := fun k (t309 : List S26) => (if (t309.length : Int) = 0 then ((redlineref07_Least.f k T' x y (a' : Int) (b' : Int) (c' : Int) (d' : Int)).bind fun t312 => (some t312)) else (redlineref07_piece.l0 k T' x y t309 (a' : Int) (c' : Int) 0 (a' : Int) (b' : Int) (c' : Int) (d' : Int)))) hlong H
      simp only [List.length_map] at hj0
      have key : ∀ R, ∀ L : Nat, Ev (fun k => redlineref07_piece.j0 k T' x y false (a' : Int) (b' : Int) (c' : Int) (d' : Int)) R → ∀ fl : Bool, (fl = true ↔ a' = b' ∨ c' = d') → Ev (fun k => redlineref07_piece.j0 k T' x y fl (a' : Int) (b' : Int) (c' : Int) (d' : Int)) R := by
        intro R L h fl hfl
        have : fl = false := by
          cases fl with
          | false => rfl
          | true => exact absurd (hfl.1 rfl) e1
        subst this
        exact h
      by_cases hr : (trow (pp_cut x a' b') (pp_cut y c' d')).length = 0
      · rw [if_pos hr]
        refine ⟨by rw [ls_len]; omega, ?_⟩
        refine key _ 0 (hj0 _ ?_)
        simp only [if_pos (show ((trow (pp_cut x a' b') (pp_cut y c' d')).length : Int) = 0 by omega)]
        refine Ev.bind (least8_ref x y a' b' c' d' b1 (by omega) b3 (by omega) (by omega) (by omega) T' (by omega)) ?_
        exact Ev.now _
      · rw [if_neg hr]
        obtain ⟨l1, p1⟩ := row_ref x y hx hy f a' c' b' d' (by omega) (by omega) (by omega) (trow (pp_cut x a' b') (pp_cut y c' d')) (by omega) ih (trow (pp_cut x a' b') (pp_cut y c' d')).length 0 a' c' T' (by omega) (Nat.le_refl _) (by rw [List.drop_zero]; exact hch) (fun e => absurd e hr) (by omega)
        rw [List.drop_zero] at l1 p1
        refine ⟨l1, ?_⟩
        refine key _ 0 (hj0 _ ?_)
        simp only [if_neg (show ¬ ((trow (pp_cut x a' b') (pp_cut y c' d')).length : Int) = 0 by omega)]
        exact p1
    refine ⟨main.1, ?_⟩
    apply Ev_unfold
    simp only [redlineref07_piece.f]
    refine Ev.bind ht ?_
    dsimp only
    by_cases hab : (a' : Int) = (b' : Int)
    · simp only [if_pos hab]
      exact main.2 true ⟨fun _ => by omega, fun _ => rfl⟩
    · simp only [if_neg hab]
      refine main.2 _ ?_
      rw [beq_iff_eq]
      omega
end
theorem none8_l (n : Nat) (hn : n ≤ 1000000) : ∀ r i : Nat, i + r = n → Ev (fun k => redlineref07_None.l0 k (n : Int) (List.replicate i (-1) ++ List.replicate r 0) (i : Int)) (List.replicate n (-1)) := by
  intro r
  induction r with
  | zero =>
    intro i hi
    apply Ev_unfold
    have e : i = n := by omega
    subst e
    simp only [redlineref07_None.l0, if_neg (show ¬ (i : Int) < (i : Int) by omega), List.replicate_zero, List.append_nil]
    exact Ev.now _
  | succ r ih =>
    intro i hi
    apply Ev_unfold
    have o1 : (i : Int) < (n : Int) := by omega
    have o2 : (0 : Int) ≤ (i : Int) := by omega
    have o3 : (i : Int) < ((List.replicate i (-1 : Int) ++ List.replicate (r + 1) 0).length : Int) := by rw [List.length_append, List.length_replicate, List.length_replicate]; omega
    have o4 : i < 4611686018427387904 := by omega
    have := ih (i + 1) (by omega)
    simp only [redlineref07_None.l0, if_pos o1, if_pos o2, if_pos o3, wadd i o4, Int.toNat_natCast]
    rw [set_done _ i r (-1) (by simp)]
    rw [List.replicate_succ', List.append_assoc] at this
    rw [List.append_assoc]
    exact this
theorem none8_ref (n : Nat) (hn : n ≤ 1000000) : Ev (fun k => redlineref07_None.f k (n : Int)) (List.replicate n (-1)) := by
  unfold redlineref07_None.f
  simp only [if_pos (show (0 : Int) ≤ (n : Int) by omega), Int.toNat_natCast, if_pos (show n ≤ 35184372088832 by omega)]
  have := none8_l n hn n 0 (by omega)
  simpa using this
theorem diff7_ref (x y : List Int) (hx : x.length ≤ 300) (hy : y.length ≤ 300) : Ev (fun k => redlineref07_Diff.f k x y) (make (pt x y (x.length + 1) 0 x.length 0 y.length (List.replicate x.length (-1))) y.length) := by
  unfold redlineref07_Diff.f
  simp only [if_neg (show ¬ (x.length : Int) > 4096 by omega), decide_eq_false (show ¬ (y.length : Int) > 4096 by omega)]
  apply Ev_unfold
  simp only [redlineref07_Diff.j0, Bool.false_eq_true, if_false]
  refine Ev.bind (none8_ref x.length (by omega)) ?_
  obtain ⟨h1, h2⟩ := piece_ref x y hx hy (x.length + 1) 0 x.length 0 y.length (List.replicate x.length (-1)) (by omega) (by omega) (by omega) (by omega) (by omega) (by simp)
  refine Ev.bind h2 ?_
  refine Ev.bind (make_ref _ _ (by omega) (by omega)) ?_
  exact Ev.now _
end P7
end Go.Proofs.Ytonbplflmdpikaa.Q
