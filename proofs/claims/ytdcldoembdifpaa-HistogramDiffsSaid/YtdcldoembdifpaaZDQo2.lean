/- plain: what the reference of chapter 8 keeps -/
import Derived.Test.YtdcldoembdifpaaZDQo
import Derived.Test.YtdcldoembdifpaaZDQd
import Derived.Test.YtdcldoembdifpaaZDXx11
import Derived.Test.YtdcldoembdifpaaZDXx55
namespace Go.Proofs.Ytdcldoembdifpaa.Q
set_option linter.unusedVariables false
set_option linter.unusedSimpArgs false
open Go.RowKit Go.Proofs.Ytdcldoembdifpaa.X Go.Proofs.Ytdcldoembdifpaa.Q.HB Go.Proofs.YtdcldoembdifpaaW.PrintWords Go.Proofs.YtdcldoembdifpaaW.PrintLast Go.Proofs.YtdcldoembdifpaaW.PrintMore
namespace HB
theorem times_l (x : List Int) (c : Int) (hx : x.length ≤ 1000000) : ∀ d i m : Nat, i + d = x.length → m ≤ i → Ev (fun k => redlineref08_times.l0 k x c (m : Int) (i : Int)) ((m : Int) + hb_cnt (x.drop i) c) := by
  intro d
  induction d with
  | zero =>
    intro i m hi hm
    apply Ev_unfold
    simp only [redlineref08_times.l0, if_neg (show ¬ (i : Int) < (x.length : Int) by omega)]
    rw [List.drop_eq_nil_of_le (by omega)]
    simp only [hb_cnt, Int.add_zero]
    exact Ev.now _
  | succ d ih =>
    intro i m hi hm
    apply Ev_unfold
    have e2 : wrap64 ((i : Int) + 1) = ((i + 1 : Nat) : Int) := wadd i (by omega)
    have e3 : wrap64 ((m : Int) + 1) = ((m + 1 : Nat) : Int) := wadd m (by omega)
    simp only [redlineref08_times.l0, if_pos (show (i : Int) < (x.length : Int) by omega), if_pos (show (0 : Int) ≤ (i : Int) by omega), e2, e3, rd_nat]
    rw [drop_cons x i (by omega)]
    simp only [hb_cnt]
    by_cases h : x.getD i 0 = c
    · simp only [if_pos h]
      have := ih (i + 1) (m + 1) (by omega) (by omega)
      rw [show ((m : Int) + (1 + hb_cnt (x.drop (i + 1)) c)) = ((m + 1 : Nat) : Int) + hb_cnt (x.drop (i + 1)) c from by omega]
      exact this
    · simp only [if_neg h]
      have := ih (i + 1) m (by omega) (by omega)
      rw [Int.zero_add]
      exact this
theorem times_ev (x : List Int) (c : Int) (hx : x.length ≤ 1000000) : Ev (fun k => redlineref08_times.f k x c) (hb_cnt x c) := by
  have := times_l x c hx x.length 0 0 (by omega) (by omega)
  simp only [List.drop_zero] at this
  unfold redlineref08_times.f
  rw [show ((0 : Nat) : Int) + hb_cnt x c = hb_cnt x c from by omega] at this
  exact this
theorem rj_len (x y : List Int) (i : Nat) : ∀ q j, (rj x y i q j).length ≤ q := by
  intro q
  induction q with
  | zero => intro j; simp [rj]
  | succ q ih =>
    intro j
    have := ih (j + 1)
    rw [rj, List.length_append]
    split
    · simp; omega
    · simp; omega
theorem ref_l2 (x y : List Int) (hx : x.length ≤ 1000000) (hy : y.length ≤ 1000000) (T : List Rn) (hT : T.length < 4398046511104) (i j : Nat) (hi : i < x.length) (hj : j < y.length) (R : List Rn) :
    ∀ q n rare, i + n + q = x.length → (Ev (fun k => redlineref08_Runs.l1 k x y (T ++ [(⟨(i : Int), (j : Int), ((hb_run x y i j q n rare).1 : Int), (hb_run x y i j q n rare).2⟩ : Rn)]) (i : Int) (wrap64 ((j : Int) + 1))) R) →
      Ev (fun k => redlineref08_Runs.l2 k x y T (i : Int) (j : Int) (i : Int) (j : Int) (n : Int) rare) R := by
  intro q
  induction q with
  | zero =>
    intro n rare hq H
    apply Ev_unfold
    have e1 : wrap64 ((i : Int) + (n : Int)) = ((i + n : Nat) : Int) := by rw [w64 _ (by omega)]; omega
    simp only [redlineref08_Runs.l2, e1, if_neg (show ¬ ((i + n : Nat) : Int) < (x.length : Int) by omega), if_pos hT]
    simp only [hb_run] at H
    exact H
  | succ q ih =>
    intro n rare hq H
    apply Ev_unfold
    have e1 : wrap64 ((i : Int) + (n : Int)) = ((i + n : Nat) : Int) := by rw [w64 _ (by omega)]; omega
    have e2 : wrap64 ((j : Int) + (n : Int)) = ((j + n : Nat) : Int) := by rw [w64 _ (by omega)]; omega
    have e3 : wrap64 ((n : Int) + 1) = ((n + 1 : Nat) : Int) := wadd n (by omega)
    simp only [redlineref08_Runs.l2, e1, e2, e3, if_pos (show ((i + n : Nat) : Int) < (x.length : Int) by omega), if_pos (show (0 : Int) ≤ ((i + n : Nat) : Int) by omega), if_pos (show (0 : Int) ≤ ((j + n : Nat) : Int) by omega), if_pos hT, rd_nat]
    rw [hb_run] at H
    by_cases h2 : j + n < y.length
    · simp only [if_pos (show ((j + n : Nat) : Int) < (y.length : Int) by omega)]
      by_cases h3 : x.getD (i + n) 0 = y.getD (j + n) 0
      · simp only [if_pos h3]
        rw [if_pos ⟨by omega, h2, h3⟩] at H
        refine Ev.bind (times_ev x _ hx) ?_
        exact ih (n + 1) _ (by omega) H
      · simp only [if_neg h3]
        rw [if_neg (fun h => h3 h.2.2)] at H
        exact H
    · simp only [if_neg (show ¬ ((j + n : Nat) : Int) < (y.length : Int) by omega)]
      rw [if_neg (fun h => h2 h.2.1)] at H
      exact H
theorem ref_l1 (x y : List Int) (hx : x.length ≤ 1000000) (hy : y.length ≤ 1000000) (i : Nat) (hi : i < x.length) (R : List Rn) :
    ∀ q j T, j + q = y.length → T.length + q < 4398046511104 → Ev (fun k => redlineref08_Runs.l0 k x y (T ++ rj x y i q j) (wrap64 ((i : Int) + 1))) R →
      Ev (fun k => redlineref08_Runs.l1 k x y T (i : Int) (j : Int)) R := by
  intro q
  induction q with
  | zero =>
    intro j T hq hT H
    apply Ev_unfold
    simp only [redlineref08_Runs.l1, if_neg (show ¬ (j : Int) < (y.length : Int) by omega)]
    simp only [rj, List.append_nil] at H
    exact H
  | succ q ih =>
    intro j T hq hT H
    apply Ev_unfold
    have e2 : wrap64 ((j : Int) + 1) = ((j + 1 : Nat) : Int) := wadd j (by omega)
    simp only [redlineref08_Runs.l1, if_pos (show (j : Int) < (y.length : Int) by omega), if_pos (show (i : Int) < (x.length : Int) by omega), if_pos (show (0 : Int) ≤ (j : Int) by omega), if_pos (show (0 : Int) ≤ (i : Int) by omega), rd_nat]
    rw [rj] at H
    have hb : ∀ b : Bool, (b = true ↔ skip x y i j) → Ev (fun k => redlineref08_Runs.j2 k x y T (i : Int) (j : Int) b) R := by
      intro b hb
      apply Ev_unfold
      simp only [redlineref08_Runs.j2]
      by_cases h : skip x y i j
      · have hbt := hb.2 h
        subst hbt
        simp only [if_true, e2]
        rw [if_pos h, List.nil_append] at H
        exact ih (j + 1) T (by omega) (by omega) H
      · have hbf : b = false := by cases b with | false => rfl | true => exact absurd (hb.1 rfl) h
        subst hbf
        simp only [Bool.false_eq_true, if_false]
        rw [if_neg h, ← List.append_assoc] at H
        have := ref_l2 x y hx hy T (by omega) i j hi (by omega) R (x.length - i) 0 (x.length : Int) (by omega) (by
          rw [e2]
          exact ih (j + 1) _ (by omega) (by simp; omega) H)
        exact this
    by_cases h1 : x.getD i 0 = y.getD j 0
    · simp only [if_pos h1]
      by_cases h2 : (i : Int) > 0
      · simp only [if_pos h2]
        have e4 : wrap64 ((i : Int) - 1) = ((i - 1 : Nat) : Int) := by rw [w64 _ (by omega)]; omega
        by_cases h3 : (j : Int) > 0
        · have e5 : wrap64 ((j : Int) - 1) = ((j - 1 : Nat) : Int) := by rw [w64 _ (by omega)]; omega
          simp only [if_pos h3, e4, e5, if_pos (show (0 : Int) ≤ ((i - 1 : Nat) : Int) by omega), if_pos (show ((i - 1 : Nat) : Int) < (x.length : Int) by omega), if_pos (show (0 : Int) ≤ ((j - 1 : Nat) : Int) by omega), if_pos (show ((j - 1 : Nat) : Int) < (y.length : Int) by omega), rd_nat]
          refine hb _ ?_
          rw [beq_iff_eq]
          constructor
          · intro h; exact .inr ⟨by omega, by omega, h⟩
          · rintro (h | ⟨_, _, h⟩)
            · exact absurd h1 h
            · exact h
        · simp only [if_neg h3]
          refine hb _ ⟨fun h => Bool.noConfusion h, ?_⟩
          rintro (h | ⟨_, h, _⟩)
          · exact absurd h1 h
          · exfalso; omega
      · simp only [if_neg h2]
        refine hb _ ⟨fun h => Bool.noConfusion h, ?_⟩
        rintro (h | ⟨h, _⟩)
        · exact absurd h1 h
        · exfalso; omega
    · simp only [if_neg h1]
      exact hb _ ⟨fun _ => .inl h1, fun _ => rfl⟩
theorem ref_l0 (x y : List Int) (hx : x.length ≤ 1000000) (hy : y.length ≤ 1000000) :
    ∀ q i T, i + q = x.length → T.length + (q + 1) * y.length < 4398046511104 → Ev (fun k => redlineref08_Runs.l0 k x y T (i : Int)) (T ++ ri x y q i) := by
  intro q
  induction q with
  | zero =>
    intro i T hq hT
    apply Ev_unfold
    simp only [redlineref08_Runs.l0, if_neg (show ¬ (i : Int) < (x.length : Int) by omega), ri, List.append_nil]
    exact Ev.now _
  | succ q ih =>
    intro i T hq hT
    apply Ev_unfold
    have e2 : wrap64 ((i : Int) + 1) = ((i + 1 : Nat) : Int) := wadd i (by omega)
    simp only [redlineref08_Runs.l0, if_pos (show (i : Int) < (x.length : Int) by omega)]
    rw [Nat.add_mul] at hT
    have hl := rj_len x y i y.length 0
    refine ref_l1 x y hx hy i (by omega) _ y.length 0 T (by omega) (by rw [Nat.one_mul] at hT; have := Nat.zero_le ((q + 1) * y.length); omega) ?_
    rw [e2, ri, ← List.append_assoc]
    exact ih (i + 1) _ (by omega) (by rw [List.length_append]; rw [Nat.one_mul] at hT; omega)
theorem best_l (T : List Rn) (hT : T.length < 4398046511104) : ∀ d i : Nat, ∀ b : Rn, i + d = T.length →
    Ev (fun k => redlineref08_Best.l0 k T (i : Int) b.f0 b.f1 b.f2 b.f3) (let r := (T.drop i).foldl fb b; (r.f0, r.f1, r.f2, r.f3, true)) := by
  intro d
  induction d with
  | zero =>
    intro i b hd
    apply Ev_unfold
    simp only [redlineref08_Best.l0, if_neg (show ¬ (i : Int) < (T.length : Int) by omega)]
    rw [List.drop_eq_nil_of_le (by omega)]
    exact Ev.now _
  | succ d ih =>
    intro i b hd
    apply Ev_unfold
    have hi : i < T.length := by omega
    have e2 : wrap64 ((i : Int) + 1) = ((i + 1 : Nat) : Int) := wadd i (by omega)
    have er : ∀ j : Int, j = (i : Int) → rd_T30 T j = T[i] := by
      intro j hj
      subst hj
      simp [rd_T30, List.getD_eq_getElem?_getD, hi]
    have er := er _ rfl
    simp only [redlineref08_Best.l0, if_pos (show (i : Int) < (T.length : Int) by omega), if_pos (show (0 : Int) ≤ (i : Int) by omega), e2, er]
    rw [List.drop_eq_getElem_cons hi, List.foldl_cons]
    generalize T[i] = r
    have := ih (i + 1) (fb b r) (by omega)
    by_cases h1 : r.f3 < b.f3
    · simp only [if_pos h1]
      rw [show fb b r = r from by unfold fb; rw [if_pos (.inl h1)]] at this ⊢
      exact this
    · simp only [if_neg h1]
      by_cases h2 : r.f3 = b.f3
      · simp only [if_pos h2]
        by_cases h3 : r.f2 > b.f2
        · simp only [if_pos h3]
          rw [show fb b r = r from by unfold fb; rw [if_pos (.inr ⟨h2, h3⟩)]] at this ⊢
          exact this
        · simp only [if_neg h3]
          rw [show fb b r = b from by unfold fb; rw [if_neg (by rintro (h | h); exact h1 h; exact h3 h.2)]] at this ⊢
          exact this
      · simp only [if_neg h2]
        rw [show fb b r = b from by unfold fb; rw [if_neg (by rintro (h | h); exact h1 h; exact h2 h.1)]] at this ⊢
        exact this
theorem ref_best (x y : List Int) (hx : x.length ≤ 300) (hy : y.length ≤ 300) : Ev (fun k => redlineref08_Best.f k x y) ((ri x y x.length 0).foldl fin (0, 0, 0, 0, false)) := by
  unfold redlineref08_Best.f
  have hm : (x.length + 1) * y.length ≤ 301 * 300 := Nat.mul_le_mul (by omega) hy
  refine Ev.bind (f := fun k t => if (t.length : Int) = 0 then some (0, 0, 0, 0, false) else if 0 < (t.length : Int) then redlineref08_Best.l0 k t 1 (rd_T30 t 0).f0 (rd_T30 t 0).f1 (rd_T30 t 0).f2 (rd_T30 t 0).f3 else none) (ref_l0 x y (by omega) (by omega) x.length 0 [] (by omega) (by simp only [List.length_nil]; omega)) ?_
  rw [List.nil_append]
  have hl : ∀ q i, (ri x y q i).length ≤ q * y.length := by
    intro q
    induction q with
    | zero => intro i; simp [ri]
    | succ q ih => intro i; rw [ri, List.length_append, Nat.add_mul]; have := ih (i + 1); have := rj_len x y i y.length 0; omega
  have hl0 := hl x.length 0
  have hm2 : x.length * y.length ≤ 300 * 300 := Nat.mul_le_mul hx hy
  generalize ri x y x.length 0 = T at *
  cases T with
  | nil =>
    simp only [List.length_nil, Int.natCast_zero, if_true, List.foldl_nil]
    exact Ev.now _
  | cons r T =>
    simp only [if_neg (show ¬ (((r :: T).length : Nat) : Int) = 0 by simp only [List.length_cons]; omega), if_pos (show (0 : Int) < (((r :: T).length : Nat) : Int) by simp only [List.length_cons]; omega)]
    rw [List.foldl_cons]
    have e0 : ∀ j : Int, j = 0 → rd_T30 (r :: T) j = r := by intro j hj; subst hj; rfl
    rw [e0 0 rfl]
    have e : fin (0, 0, 0, 0, false) r = (r.f0, r.f1, r.f2, r.f3, true) := by unfold fin; rw [if_pos (.inl rfl)]
    rw [e, fold_fin]
    have := best_l (r :: T) (by omega) T.length 1 r (by simp only [List.length_cons]; omega)
    simp only [List.drop_succ_cons, List.drop_zero] at this
    exact this
end HB
/-! the reference -/
set_option maxHeartbeats 400000 in
theorem trim_b (x y : List Int) (a c : Nat) : ∀ q b d T, b - a = q → a ≤ b → c ≤ d → b ≤ x.length → d ≤ y.length → T.length = x.length → x.length ≤ 1000000 → y.length ≤ 1000000 →
    Ev (fun k => redlineref07_Trim.l1 k T x y (a : Int) (b : Int) (c : Int) (d : Int)) ((a : Int), (((hp_back x y a c q b d T).1 : Nat) : Int), (c : Int), (((hp_back x y a c q b d T).2.1 : Nat) : Int), (hp_back x y a c q b d T).2.2) := by
  intro q
  induction q with
  | zero =>
    intro b d T hq h1 h2 h3 h4 hT hx hy
    apply Ev_unfold
    simp only [redlineref07_Trim.l1, if_neg (show ¬ (a : Int) < (b : Int) by omega), hp_back]
    exact Ev.now _
  | succ q ih =>
    intro b d T hq h1 h2 h3 h4 hT hx hy
    apply Ev_unfold
    have o0 : a < b := by omega
    have o1 : 1 ≤ b := by omega
    have o2 : b < 4611686018427387904 := by omega
    simp only [redlineref07_Trim.l1, if_pos (show (a : Int) < (b : Int) by omega)]
    rw [hp_back]
    by_cases hc : c < d
    · have o3 : 1 ≤ d := by omega
      have o4 : d < 4611686018427387904 := by omega
      have o5 : ((b - 1 : Nat) : Int) < (T.length : Int) := by omega
      simp only [if_pos (show (c : Int) < (d : Int) by omega), wone b o1 o2, wone d o3 o4, if_pos (show (0 : Int) ≤ ((b - 1 : Nat) : Int) by omega), if_pos (show ((b - 1 : Nat) : Int) < (x.length : Int) by omega), if_pos (show (0 : Int) ≤ ((d - 1 : Nat) : Int) by omega), if_pos (show ((d - 1 : Nat) : Int) < (y.length : Int) by omega), rd_nat]
      by_cases h : x.getD (b - 1) 0 = y.getD (d - 1) 0
      · simp only [if_pos h, if_pos o5, Int.toNat_natCast]
        rw [if_pos ⟨o0, hc, h⟩]
        exact ih (b - 1) (d - 1) _ (by omega) (by omega) (by omega) (by omega) (by omega) (by rw [List.length_set]; exact hT) hx hy
      · simp only [if_neg h]
        rw [if_neg (fun p => h p.2.2)]
        exact Ev.now _
    · simp only [if_neg (show ¬ (c : Int) < (d : Int) by omega)]
      rw [if_neg (fun p => hc p.2.1)]
      exact Ev.now _
set_option maxHeartbeats 400000 in
theorem trim_f (x y : List Int) (b d : Nat) (R : Int × Int × Int × Int × List Int) : ∀ q a c T, b - a = q → a ≤ b → c ≤ d → b ≤ x.length → d ≤ y.length → T.length = x.length → x.length ≤ 1000000 → y.length ≤ 1000000 →
    Ev (fun k => redlineref07_Trim.l1 k (hp_lay (fr x y b d q a c) a (c : Int) T) x y ((a + fr x y b d q a c : Nat) : Int) (b : Int) ((c + fr x y b d q a c : Nat) : Int) (d : Int)) R →
    Ev (fun k => redlineref07_Trim.l0 k T x y (a : Int) (b : Int) (c : Int) (d : Int)) R := by
  intro q
  induction q with
  | zero =>
    intro a c T hq h1 h2 h3 h4 hT hx hy H
    apply Ev_unfold
    simp only [redlineref07_Trim.l0, if_neg (show ¬ (a : Int) < (b : Int) by omega)]
    apply Ev_unfold
    simp only [redlineref07_Trim.j1]
    simp only [fr, Nat.add_zero, hp_lay] at H
    exact H
  | succ q ih =>
    intro a c T hq h1 h2 h3 h4 hT hx hy H
    have hstop : ¬ (a < b ∧ c < d ∧ x.getD a 0 = y.getD c 0) → Ev (fun k => redlineref07_Trim.j1 k T x y (a : Int) (b : Int) (c : Int) (d : Int)) R := by
      intro hn
      apply Ev_unfold
      simp only [redlineref07_Trim.j1]
      rw [fr, if_neg hn] at H
      simp only [Nat.add_zero, hp_lay] at H
      exact H
    apply Ev_unfold
    simp only [redlineref07_Trim.l0, if_pos (show (a : Int) < (b : Int) by omega)]
    by_cases hc : c < d
    · simp only [if_pos (show (c : Int) < (d : Int) by omega), if_pos (show (0 : Int) ≤ (a : Int) by omega), if_pos (show (0 : Int) ≤ (c : Int) by omega), if_pos (show (a : Int) < (x.length : Int) by omega), if_pos (show (c : Int) < (y.length : Int) by omega), rd_nat]
      by_cases h : x.getD a 0 = y.getD c 0
      · have o1 : (a : Int) < (T.length : Int) := by omega
        have o2 : a < 4611686018427387904 := by omega
        have o3 : c < 4611686018427387904 := by omega
        have o4 : a < b := by omega
        rw [fr, if_pos ⟨o4, hc, h⟩] at H
        simp only [hp_lay] at H
        simp only [if_pos h, if_pos o1, wadd a o2, wadd c o3, Int.toNat_natCast]
        refine ih (a + 1) (c + 1) (T.set a (c : Int)) (by omega) (by omega) (by omega) h3 h4 (by rw [List.length_set]; exact hT) hx hy ?_
        rw [show a + 1 + fr x y b d q (a + 1) (c + 1) = a + (fr x y b d q (a + 1) (c + 1) + 1) from by omega, show c + 1 + fr x y b d q (a + 1) (c + 1) = c + (fr x y b d q (a + 1) (c + 1) + 1) from by omega]
        exact H
      · simp only [if_neg h]
        exact hstop (fun p => h p.2.2)
    · simp only [if_neg (show ¬ (c : Int) < (d : Int) by omega)]
      exact hstop (fun p => hc p.2.1)
theorem trim_ref (x y : List Int) (a b c d : Nat) (T : List Int) (h1 : a ≤ b) (h2 : c ≤ d) (h3 : b ≤ x.length) (h4 : d ≤ y.length) (hT : T.length = x.length) (hx : x.length ≤ 1000000) (hy : y.length ≤ 1000000) (n : Nat) (hn : n = fr x y b d (b - a) a c) (s : Nat × Nat × List Int) (hs : s = hp_back x y (a + n) (c + n) (b - (a + n)) b d (hp_lay n a (c : Int) T)) :
    Ev (fun k => redlineref07_Trim.f k T x y (a : Int) (b : Int) (c : Int) (d : Int)) (((a + n : Nat) : Int), (s.1 : Int), ((c + n : Nat) : Int), (s.2.1 : Int), s.2.2) := by
  unfold redlineref07_Trim.f
  obtain ⟨f1, f2, _⟩ := fr_spec x y b d (b - a) a c h1 h2
  refine trim_f x y b d _ (b - a) a c T rfl h1 h2 h3 h4 hT hx hy ?_
  rw [← hn] at f1 f2 ⊢
  rw [hs]
  exact trim_b x y (a + n) (c + n) (b - (a + n)) b d (hp_lay n a (c : Int) T) rfl f1 f2 h3 h4 (by rw [hp_lay_len]; exact hT) hx hy
theorem least8_ref (x y : List Int) (a b c d : Nat) (hab : a ≤ b) (hb : b ≤ x.length) (hcd : c ≤ d) (hd : d ≤ y.length) (hx : x.length ≤ 4096) (hy : y.length ≤ 4096) (T : List Int) (hT : T.length = x.length) :
    Ev (fun k => redlineref07_Least.f k T x y (a : Int) (b : Int) (c : Int) (d : Int)) (ls_lay (c : Int) a (kp (hp_cut x a b) (hp_cut y c d) 0) T) := by
  unfold redlineref07_Least.f
  rw [show (fun k => if (0 ≤ (a : Int) ∧ (a : Int) ≤ (b : Int) ∧ (b : Int) ≤ (x.length : Int) ∧ 0 ≤ (c : Int) ∧ (c : Int) ≤ (d : Int) ∧ (d : Int) ≤ (y.length : Int)) ∧ (b : Int) ≤ (T.length : Int) ∧ (b : Int) ≤ 1000000 then
      (redlineref06_Keeps.f k ((x.take (b : Int).toNat).drop (a : Int).toNat) ((y.take (d : Int).toNat).drop (c : Int).toNat)).bind fun t => if t.length ≤ (b : Int).toNat - (a : Int).toNat then some (ls_lay (c : Int) (a : Int).toNat t T) else none
    else none) = fun k => (redlineref06_Keeps.f k (hp_cut x a b) (hp_cut y c d)).bind fun t => if t.length ≤ b - a then some (ls_lay (c : Int) a t T) else none from by
      funext k
      rw [if_pos (by omega)]
      simp only [Int.toNat_natCast, hp_cut]]
  have lX := cut_len x a b hb
  have lY := cut_len y c d hd
  refine Ev.bind (keeps_f _ _ (by omega) (by omega)) ?_
  simp only [if_pos (show (kp (hp_cut x a b) (hp_cut y c d) 0).length ≤ b - a by rw [kp_len]; omega)]
  exact Ev.now _
section
variable (x y : List Int) (hx : x.length ≤ 300) (hy : y.length ≤ 300)
include hx hy
set_option maxHeartbeats 400000 in
theorem hold_ref (a b c d : Nat) (X Y N Ra : Int) (u v n : Nat) (hN : N = n) (R : List Int) : ∀ q i T, i + q = n → T.length = x.length → u + n ≤ x.length → v + n ≤ y.length →
    Ev (fun k => ((redlineref08_piece.f k (hp_lay q (u + i) ((v + i : Nat) : Int) T) x y (a : Int) (u : Int) (c : Int) (v : Int)).bind fun t632 => ((redlineref08_piece.f k t632 x y ((u + n : Nat) : Int) (b : Int) ((v + n : Nat) : Int) (d : Int)).bind fun t633 => (some t633)))) R →
    Ev (fun k => redlineref08_piece.l0 k T x y (u : Int) (v : Int) (i : Int) (a : Int) (b : Int) (c : Int) (d : Int) X Y N Ra) R := by
  subst hN
  intro q
  induction q with
  | zero =>
    intro i T hq hT h1 h2 H
    apply Ev_unfold
    have o1 : u < 1000000 := by omega
    have o2 : n < 1000000 := by omega
    have o3 : v < 1000000 := by omega
    simp only [redlineref08_piece.l0, if_neg (show ¬ (i : Int) < (n : Int) by omega), wplus u n o1 o2, wplus v n o3 o2]
    simp only [hp_lay] at H
    exact H
  | succ q ih =>
    intro i T hq hT h1 h2 H
    apply Ev_unfold
    have o1 : u < 1000000 := by omega
    have o2 : i < 1000000 := by omega
    have o3 : v < 1000000 := by omega
    have o4 : i < 4611686018427387904 := by omega
    simp only [redlineref08_piece.l0, if_pos (show (i : Int) < (n : Int) by omega), wplus u i o1 o2, wplus v i o3 o2, wadd i o4, if_pos (show (0 : Int) ≤ ((u + i : Nat) : Int) by omega), if_pos (show ((u + i : Nat) : Int) < (T.length : Int) by omega), Int.toNat_natCast]
    simp only [hp_lay] at H
    refine ih (i + 1) _ (by omega) (by rw [List.length_set]; exact hT) h1 h2 ?_
    exact H
set_option maxHeartbeats 400000 in
theorem piece_ref : ∀ f a b c d T, b - a < f → a ≤ b → b ≤ x.length → c ≤ d → d ≤ y.length → T.length = x.length → (pc x y f a b c d T).length = x.length ∧ Ev (fun k => redlineref08_piece.f k T x y (a : Int) (b : Int) (c : Int) (d : Int)) (pc x y f a b c d T) := by
  intro f
  induction f with
  | zero => intro a b c d T h; omega
  | succ f ih =>
    intro a b c d T hf h1 h2 h3 h4 hT
    obtain ⟨n, hn⟩ : ∃ n, n = fr x y b d (b - a) a c := ⟨_, rfl⟩
    obtain ⟨s, hs⟩ : ∃ s, s = hp_back x y (a + n) (c + n) (b - (a + n)) b d (hp_lay n a (c : Int) T) := ⟨_, rfl⟩
    have ht := trim_ref x y a b c d T h1 h3 h2 h4 hT (by omega) (by omega) n hn s hs
    obtain ⟨f1, f2, _⟩ := fr_spec x y b d (b - a) a c h1 h3
    obtain ⟨b1, b2, b3, b4, b5, b6, _⟩ := back_spec x y (a + n) (c + n) (b - (a + n)) b d (hp_lay n a (c : Int) T) (by omega) (by omega)
    rw [hp_lay_len] at b6
    rw [pc, ← hn, ← hs]
    rw [← hs] at b1 b2 b3 b4 b5 b6
    rw [← hn] at f1 f2
    clear hs hn
    obtain ⟨b', d', T'⟩ := s
    dsimp only at *
    obtain ⟨a', ha'⟩ : ∃ a', a' = a + n := ⟨_, rfl⟩
    obtain ⟨c', hc'⟩ : ∃ c', c' = c + n := ⟨_, rfl⟩
    rw [← ha', ← hc'] at ht
    rw [← ha'] at f1 b1 ⊢
    rw [← hc'] at f2 b3 ⊢
    have lX := cut_len x a' b' (by omega)
    have lY := cut_len y c' d' (by omega)
    have hbest := ref_best (hp_cut x a' b') (hp_cut y c' d') (by omega) (by omega)
    rw [show (ri (hp_cut x a' b') (hp_cut y c' d') (hp_cut x a' b').length 0).foldl fin (0, 0, 0, 0, false) = bst (hp_cut x a' b') (hp_cut y c' d') from rfl] at hbest
    have main : (pcr x y (pc x y f) a' c' (b', d', T')).length = x.length ∧ ∀ fl : Bool, (fl = true ↔ a' = b' ∨ c' = d') → Ev (fun k => redlineref08_piece.j0 k T' x y fl (a' : Int) (b' : Int) (c' : Int) (d' : Int)) (pcr x y (pc x y f) a' c' (b', d', T')) := by
      have hj0 : ∀ R, Ev (fun k => (fun bt624 : Int × Int × Int × Int × Bool => (if bt624.2.2.2.2 = true then (if bt624.2.2.2.1 > 64 then ((redlineref07_Least.f k T' x y (a' : Int) (b' : Int) (c' : Int) (d' : Int)).bind fun t630 => (some t630)) else (redlineref08_piece.l0 k T' x y (wrap64 ((a' : Int) + bt624.1)) (wrap64 ((c' : Int) + bt624.2.1)) 0 (a' : Int) (b' : Int) (c' : Int) (d' : Int) bt624.1 bt624.2.1 bt624.2.2.1 bt624.2.2.2.1)) else (some T'))) (bst (hp_cut x a' b') (hp_cut y c' d'))) R →
          Ev (fun k => redlineref08_piece.j0 k T' x y false (a' : Int) (b' : Int) (c' : Int) (d' : Int)) R := by
        intro R H
        apply Ev_unfold
        simp only [redlineref08_piece.j0, Bool.false_eq_true, if_false, if_pos (show (0 : Int) ≤ (a' : Int) by omega), if_pos (show (a' : Int) ≤ (b' : Int) by omega), if_pos (show (b' : Int) ≤ (x.length : Int) by omega), if_pos (show (0 : Int) ≤ (c' : Int) by omega), if_pos (show (c' : Int) ≤ (d' : Int) by omega), if_pos (show (d' : Int) ≤ (y.length : Int) by omega), Int.toNat_natCast]
        exact Ev.bind (f := fun k (bt624 : Int × Int × Int × Int × Bool) => (if bt624.2.2.2.2 = true then (if bt624.2.2.2.1 > 64 then ((redlineref07_Least.f k T' x y (a' : Int) (b' : Int) (c' : Int) (d' : Int)).bind fun t630 => (some t630)) else (redlineref08_piece.l0 k T' x y (wrap64 ((a' : Int) + bt624.1)) (wrap64 ((c' : Int) + bt624.2.1)) 0 (a' : Int) (b' : Int) (c' : Int) (d' : Int) bt624.1 bt624.2.1 bt624.2.2.1 bt624.2.2.2.1)) else (some T'))) hbest H
      unfold pcr
      dsimp only
      cases hfd : (bst (hp_cut x a' b') (hp_cut y c' d')).2.2.2.2 with
      | false =>
        simp only [if_true]
        refine ⟨by omega, ?_⟩
        intro fl hfl
        cases fl with
        | true =>
          apply Ev_unfold
          simp only [redlineref08_piece.j0, if_true]
          exact Ev.now _
        | false =>
          refine hj0 _ ?_
          dsimp only
          rw [hfd]
          simp only [Bool.false_eq_true, if_false]
          exact Ev.now _
      | true =>
        obtain ⟨i, j, N, rare, e, hN, hR, _⟩ := bst_some _ _ hfd
        have hRi := hR.hi
        have hRj := hR.hj
        rw [lX] at hRi
        rw [lY] at hRj
        rw [e] at hj0
        simp only [if_true] at hj0
        rw [e]
        simp only [Bool.true_eq_false, if_false, Int.toNat_natCast]
        by_cases hr : rare > 64
        · simp only [if_pos hr] at hj0 ⊢
          have hll : ∀ (vs : List Int) (p : Nat) (T : List Int), (ls_lay (c' : Int) p vs T).length = T.length := by
            intro vs
            induction vs with
            | nil => intro p T; rfl
            | cons v vs ih => intro p T; rw [ls_lay, ih]; split <;> simp
          refine ⟨by rw [hll]; omega, ?_⟩
          intro fl hfl
          have : fl = false := by
            cases fl with
            | false => rfl
            | true => exfalso; have := hfl.1 rfl; omega
          subst this
          refine hj0 _ ?_
          refine Ev.bind (least8_ref x y a' b' c' d' b1 (by omega) b3 (by omega) (by omega) (by omega) T' (by omega)) ?_
          exact Ev.now _
        · simp only [if_neg hr] at hj0 ⊢
          obtain ⟨l1, p1⟩ := ih a' (a' + i) c' (c' + j) (hp_lay N (a' + i) ((c' : Int) + (j : Int)) T') (by omega) (by omega) (by omega) (by omega) (by omega) (by rw [hp_lay_len]; omega)
          obtain ⟨l2, p2⟩ := ih (a' + i + N) b' (c' + j + N) d' _ (by omega) (by omega) (by omega) (by omega) (by omega) l1
          refine ⟨l2, ?_⟩
          intro fl hfl
          have : fl = false := by
            cases fl with
            | false => rfl
            | true => exfalso; have := hfl.1 rfl; omega
          subst this
          refine hj0 _ ?_
          have hh := hold_ref x y hx hy a' b' c' d' (i : Int) (j : Int) (N : Int) rare (a' + i) (c' + j) N rfl
            (pc x y f (a' + i + N) b' (c' + j + N) d' (pc x y f a' (a' + i) c' (c' + j) (hp_lay N (a' + i) ((c' : Int) + (j : Int)) T'))) N 0 T' (by omega) (by omega) (by omega) (by omega) (by
              refine Ev.bind p1 ?_
              refine Ev.bind p2 ?_
              exact Ev.now _)
          have o1 : a' < 1000000 := by omega
          have o2 : i < 1000000 := by omega
          have o3 : c' < 1000000 := by omega
          have o4 : j < 1000000 := by omega
          rw [wplus a' i o1 o2, wplus c' j o3 o4]
          exact hh
    refine ⟨main.1, ?_⟩
    apply Ev_unfold
    simp only [redlineref08_piece.f]
    refine Ev.bind ht ?_
    dsimp only
    by_cases hab : (a' : Int) = (b' : Int)
    · simp only [if_pos hab]
      exact main.2 true ⟨fun _ => by omega, fun _ => rfl⟩
    · simp only [if_neg hab]
      refine main.2 _ ?_
      rw [beq_iff_eq]
      omega
end
theorem none8_l (n : Nat) (hn : n ≤ 1000000) : ∀ r i : Nat, i + r = n → Ev (fun k => redlineref07_None.l0 k (n : Int) (List.replicate i (-1) ++ List.replicate r 0) (i : Int)) (List.replicate n (-1)) := by
  intro r
  induction r with
  | zero =>
    intro i hi
    apply Ev_unfold
    have e : i = n := by omega
    subst e
    simp only [redlineref07_None.l0, if_neg (show ¬ (i : Int) < (i : Int) by omega), List.replicate_zero, List.append_nil]
    exact Ev.now _
  | succ r ih =>
    intro i hi
    apply Ev_unfold
    have o1 : (i : Int) < (n : Int) := by omega
    have o2 : (0 : Int) ≤ (i : Int) := by omega
    have o3 : (i : Int) < ((List.replicate i (-1 : Int) ++ List.replicate (r + 1) 0).length : Int) := by rw [List.length_append, List.length_replicate, List.length_replicate]; omega
    have o4 : i < 4611686018427387904 := by omega
    have := ih (i + 1) (by omega)
    simp only [redlineref07_None.l0, if_pos o1, if_pos o2, if_pos o3, wadd i o4, Int.toNat_natCast]
    rw [set_done _ i r (-1) (by simp)]
    rw [List.replicate_succ', List.append_assoc] at this
    rw [List.append_assoc]
    exact this
theorem none8_ref (n : Nat) (hn : n ≤ 1000000) : Ev (fun k => redlineref07_None.f k (n : Int)) (List.replicate n (-1)) := by
  unfold redlineref07_None.f
  simp only [if_pos (show (0 : Int) ≤ (n : Int) by omega), Int.toNat_natCast, if_pos (show n ≤ 35184372088832 by omega)]
  have := none8_l n hn n 0 (by omega)
  simpa using this
theorem diff8_ref (x y : List Int) (hx : x.length ≤ 300) (hy : y.length ≤ 300) : Ev (fun k => redlineref08_Diff.f k x y) (make (pc x y (x.length + 1) 0 x.length 0 y.length (List.replicate x.length (-1))) y.length) := by
  unfold redlineref08_Diff.f
  simp only [if_neg (show ¬ (x.length : Int) > 4096 by omega), decide_eq_false (show ¬ (y.length : Int) > 4096 by omega)]
  apply Ev_unfold
  simp only [redlineref08_Diff.j0, Bool.false_eq_true, if_false]
  refine Ev.bind (none8_ref x.length (by omega)) ?_
  obtain ⟨h1, h2⟩ := piece_ref x y hx hy (x.length + 1) 0 x.length 0 y.length (List.replicate x.length (-1)) (by omega) (by omega) (by omega) (by omega) (by omega) (by simp)
  refine Ev.bind h2 ?_
  refine Ev.bind (make_ref _ _ (by omega) (by omega)) ?_
  exact Ev.now _
end Go.Proofs.Ytdcldoembdifpaa.Q
