/- plain: what histogram keeps of a piece; the program's answer is the reference's -/
import Derived.Test.YtdcldoembdifpaaZRQn
import Derived.Test.YtdcldoembdifpaaZRQc
import Derived.Test.YtdcldoembdifpaaZRQg
import Derived.Test.YtdcldoembdifpaaZRQh
import Derived.Test.YtdcldoembdifpaaZRXx53
namespace Go.Proofs.Ytdcldoembdifpaa.Q
set_option linter.unusedVariables false
set_option linter.unusedSimpArgs false
open Go.RowKit Go.Proofs.Ytdcldoembdifpaa.X Go.Proofs.Ytdcldoembdifpaa.Q.HB Go.Proofs.YtdcldoembdifpaaW.PrintWords Go.Proofs.YtdcldoembdifpaaW.PrintLast Go.Proofs.YtdcldoembdifpaaW.PrintMore
/-- how many are the same from a and c on -/
def fr (x y : List Int) (b d : Nat) : Nat → Nat → Nat → Nat
  | 0, _, _ => 0
  | q + 1, a, c => if a < b ∧ c < d ∧ x.getD a 0 = y.getD c 0 then fr x y b d q (a + 1) (c + 1) + 1 else 0
theorem fr_front (x y : List Int) (a b c d : Nat) : ∀ q n, hp_front x y a b c d q n = n + fr x y b d q (a + n) (c + n) := by
  intro q
  induction q with
  | zero => intro n; simp [hp_front, fr]
  | succ q ih =>
    intro n
    rw [hp_front, fr]
    by_cases h : a + n < b ∧ c + n < d ∧ x.getD (a + n) 0 = y.getD (c + n) 0
    · rw [if_pos h, if_pos h, ih (n + 1), show a + (n + 1) = a + n + 1 from by omega, show c + (n + 1) = c + n + 1 from by omega]; omega
    · rw [if_neg h, if_neg h]; omega
theorem fr_front0 (x y : List Int) (a b c d q : Nat) : hp_front x y a b c d q 0 = fr x y b d q a c := by
  rw [fr_front]; simp
theorem fr_spec (x y : List Int) (b d : Nat) : ∀ q a c, a ≤ b → c ≤ d → a + fr x y b d q a c ≤ b ∧ c + fr x y b d q a c ≤ d ∧ ∀ t, t < fr x y b d q a c → x.getD (a + t) 0 = y.getD (c + t) 0 := by
  intro q
  induction q with
  | zero => intro a c h1 h2; simp only [fr]; exact ⟨by omega, by omega, by intro t ht; omega⟩
  | succ q ih =>
    intro a c h1 h2
    rw [fr]
    by_cases h : a < b ∧ c < d ∧ x.getD a 0 = y.getD c 0
    · rw [if_pos h]
      obtain ⟨i1, i2, i3⟩ := ih (a + 1) (c + 1) (by omega) (by omega)
      refine ⟨by omega, by omega, ?_⟩
      intro t ht
      cases t with
      | zero => exact h.2.2
      | succ t =>
        have := i3 t (by omega)
        rw [show a + (t + 1) = a + 1 + t from by omega, show c + (t + 1) = c + 1 + t from by omega]; exact this
    · rw [if_neg h]; exact ⟨by omega, by omega, by intro t ht; omega⟩
theorem back_spec (x y : List Int) (a c : Nat) : ∀ q b d T, a ≤ b → c ≤ d → a ≤ (hp_back x y a c q b d T).1 ∧ (hp_back x y a c q b d T).1 ≤ b ∧ c ≤ (hp_back x y a c q b d T).2.1 ∧ (hp_back x y a c q b d T).2.1 ≤ d ∧
    b - (hp_back x y a c q b d T).1 = d - (hp_back x y a c q b d T).2.1 ∧ (hp_back x y a c q b d T).2.2.length = T.length ∧ ∀ t, t < b - (hp_back x y a c q b d T).1 → x.getD ((hp_back x y a c q b d T).1 + t) 0 = y.getD ((hp_back x y a c q b d T).2.1 + t) 0 := by
  intro q
  induction q with
  | zero => intro b d T h1 h2; exact ⟨h1, Nat.le_refl _, h2, Nat.le_refl _, by show b - b = d - d; omega, rfl, by intro t ht; exfalso; have : t < b - b := ht; omega⟩
  | succ q ih =>
    intro b d T h1 h2
    rw [hp_back]
    by_cases h : a < b ∧ c < d ∧ x.getD (b - 1) 0 = y.getD (d - 1) 0
    · rw [if_pos h]
      have := ih (b - 1) (d - 1) (T.set (b - 1) ((d - 1 : Nat) : Int)) (by omega) (by omega)
      generalize hp_back x y a c q (b - 1) (d - 1) (T.set (b - 1) ((d - 1 : Nat) : Int)) = s at *
      obtain ⟨i1, i2, i3, i4, i5, i6, i7⟩ := this
      rw [List.length_set] at i6
      refine ⟨i1, by omega, i3, by omega, by omega, i6, ?_⟩
      intro t ht
      by_cases e : t < b - 1 - s.1
      · exact i7 t e
      · rw [show s.1 + t = b - 1 from by omega, show s.2.1 + t = d - 1 from by omega]; exact h.2.2
    · rw [if_neg h]; exact ⟨h1, Nat.le_refl _, h2, Nat.le_refl _, by show b - b = d - d; omega, rfl, by intro t ht; exfalso; have : t < b - b := ht; omega⟩
def pcr (x y : List Int) (rc : Nat → Nat → Nat → Nat → List Int → List Int) (a c : Nat) (s : Nat × Nat × List Int) : List Int :=
  let r := bst (hp_cut x a s.1) (hp_cut y c s.2.1)
  if r.2.2.2.2 = false then s.2.2
  else if r.2.2.2.1 > 64 then ls_lay (c : Int) a (kp (hp_cut x a s.1) (hp_cut y c s.2.1) 0) s.2.2
  else rc (a + r.1.toNat + r.2.2.1.toNat) s.1 (c + r.2.1.toNat + r.2.2.1.toNat) s.2.1 (rc a (a + r.1.toNat) c (c + r.2.1.toNat) (hp_lay r.2.2.1.toNat (a + r.1.toNat) ((c : Int) + r.2.1) s.2.2))
/-- what is kept of the piece from a to b and from c to d -/
def pc (x y : List Int) : Nat → Nat → Nat → Nat → Nat → List Int → List Int
  | 0, _, _, _, _, T => T
  | f + 1, a, b, c, d, T =>
    pcr x y (pc x y f) (a + fr x y b d (b - a) a c) (c + fr x y b d (b - a) a c)
      (hp_back x y (a + fr x y b d (b - a) a c) (c + fr x y b d (b - a) a c) (b - (a + fr x y b d (b - a) a c)) b d (hp_lay (fr x y b d (b - a) a c) a (c : Int) T))
theorem cut_len (x : List Int) (a b : Nat) (h : b ≤ x.length) : (hp_cut x a b).length = b - a := by
  unfold hp_cut; rw [List.length_drop, List.length_take]; omega
theorem cut_mem {x : List Int} {a b : Nat} {v : Int} (h : v ∈ hp_cut x a b) : v ∈ x := List.mem_of_mem_take (List.mem_of_mem_drop h)
section
variable (x y : List Int) (hx : x.length ≤ 4096) (hy : y.length ≤ 4096) (wx : ∀ v ∈ x, (Lit.int .i64 v).wf = true) (wy : ∀ v ∈ y, (Lit.int .i64 v).wf = true)
include hx hy wx wy
set_option maxHeartbeats 400000 in
theorem rest_prog (f a c b d : Nat) (T : List Int) (h1 : a ≤ b) (h2 : b ≤ x.length) (h3 : c ≤ d) (h4 : d ≤ y.length) (hT : T.length = x.length) (hf : b - a ≤ f)
    (IH : ∀ a b c d T, b - a < f → a ≤ b → b ≤ x.length → c ≤ d → d ≤ y.length → T.length = x.length → (pc x y f a b c d T).length = x.length ∧ Ev (fun k => hp_piece x y k a b c d T) (pc x y f a b c d T)) :
    (pcr x y (pc x y f) a c (b, d, T)).length = x.length ∧ Ev (fun k => hp_rest x y k (hp_piece x y k) a c (b, d, T)) (pcr x y (pc x y f) a c (b, d, T)) := by
  have lX := cut_len x a b h2
  have lY := cut_len y c d h4
  have hb := bst_prog (hp_cut x a b) (hp_cut y c d) (by omega) (by omega) (fun v hv => wx v (cut_mem hv)) (fun v hv => wy v (cut_mem hv))
  unfold hp_rest pcr
  dsimp only
  rw [hb]
  simp only [bsome]
  cases hfd : (bst (hp_cut x a b) (hp_cut y c d)).2.2.2.2 with
  | false =>
    simp only [if_true]
    exact ⟨hT, Ev.now _⟩
  | true =>
    simp only [Bool.true_eq_false, if_false]
    obtain ⟨i, j, n, rare, e, hn, hR, _⟩ := bst_some _ _ hfd
    rw [e]
    dsimp only
    have hRi := hR.hi
    have hRj := hR.hj
    rw [lX] at hRi
    rw [lY] at hRj
    by_cases hr : rare > 64
    · simp only [if_pos hr]
      refine ⟨?_, ?_⟩
      · have : ∀ (vs : List Int) (p : Nat) (T : List Int), (ls_lay (c : Int) p vs T).length = T.length := by
          intro vs
          induction vs with
          | nil => intro p T; rfl
          | cons v vs ih => intro p T; rw [ls_lay, ih]; split <;> simp
        rw [this, hT]
      · refine Ev.bind (diff_prog (hp_cut x a b) (hp_cut y c d) (by omega) (by omega)) ?_
        rw [make_kp]
        dsimp only
        have hk := keep_mk (kp (hp_cut x a b) (hp_cut y c d) 0) (hp_cut y c d).length (by rw [kp_len]; omega) (by omega) (kp_ok _ _ _ _ _ (by omega) (by omega) (by omega))
        rw [kp_len] at hk
        have e1 : ((b : Int) - (a : Int)) = (((hp_cut x a b).length : Nat) : Int) := by omega
        have e2 : ((d : Int) - (c : Int)) = (((hp_cut y c d).length : Nat) : Int) := by omega
        rw [e1, e2]
        refine Ev.bind hk ?_
        dsimp only
        have e3 : (kp (hp_cut x a b) (hp_cut y c d) 0).length ≤ b - a := by rw [kp_len]; omega
        simp only [if_pos e3]
        exact Ev.now _
    · simp only [if_neg hr, Int.toNat_natCast]
      have g : (0 : Int) ≤ (i : Int) ∧ (0 : Int) ≤ (j : Int) ∧ (0 : Int) ≤ (n : Int) ∧ (a : Int) + (i : Int) + (n : Int) ≤ (b : Int) ∧ (c : Int) + (j : Int) + (n : Int) ≤ (d : Int) := by omega
      simp only [if_pos g]
      obtain ⟨l1, p1⟩ := IH a (a + i) c (c + j) (hp_lay n (a + i) ((c : Int) + (j : Int)) T) (by omega) (by omega) (by omega) (by omega) (by omega) (by rw [hp_lay_len, hT])
      obtain ⟨l2, p2⟩ := IH (a + i + n) b (c + j + n) d _ (by omega) (by omega) (by omega) (by omega) (by omega) l1
      exact ⟨l2, Ev.bind p1 p2⟩
theorem piece_prog : ∀ f a b c d T, b - a < f → a ≤ b → b ≤ x.length → c ≤ d → d ≤ y.length → T.length = x.length → (pc x y f a b c d T).length = x.length ∧ Ev (fun k => hp_piece x y k a b c d T) (pc x y f a b c d T) := by
  intro f
  induction f with
  | zero => intro a b c d T h; omega
  | succ f ih =>
    intro a b c d T hf h1 h2 h3 h4 hT
    have e : ∀ k, hp_piece x y (k + 1) a b c d T = hp_rest x y k (hp_piece x y k) (a + fr x y b d (b - a) a c) (c + fr x y b d (b - a) a c)
        (hp_back x y (a + fr x y b d (b - a) a c) (c + fr x y b d (b - a) a c) (b - (a + fr x y b d (b - a) a c)) b d (hp_lay (fr x y b d (b - a) a c) a (c : Int) T)) := by
      intro k
      rw [hp_piece]
      try dsimp only
      rw [fr_front0]
    rw [pc]
    obtain ⟨f1, f2, _⟩ := fr_spec x y b d (b - a) a c h1 h3
    generalize fr x y b d (b - a) a c = n at *
    obtain ⟨b1, b2, b3, b4, b5, b6, _⟩ := back_spec x y (a + n) (c + n) (b - (a + n)) b d (hp_lay n a (c : Int) T) (by omega) (by omega)
    rw [hp_lay_len] at b6
    generalize hp_back x y (a + n) (c + n) (b - (a + n)) b d (hp_lay n a (c : Int) T) = s at *
    obtain ⟨b', d', T'⟩ := s
    dsimp only at *
    obtain ⟨q1, q2⟩ := rest_prog x y hx hy wx wy f (a + n) (c + n) b' d' T' b1 (by omega) b3 (by omega) (by omega) (by omega) ih
    refine ⟨q1, ?_⟩
    apply Ev_unfold
    exact Ev.congr e q2
theorem diff8_prog : Ev (fun k => histogram_Diff.f k x y) (make (pc x y (x.length + 1) 0 x.length 0 y.length (List.replicate x.length (-1))) y.length) := by
  unfold histogram_Diff.f
  simp only [if_neg (show ¬ (x.length : Int) > 4096 by omega), if_neg (show ¬ (y.length : Int) > 4096 by omega)]
  obtain ⟨h1, h2⟩ := piece_prog x y hx hy wx wy (x.length + 1) 0 x.length 0 y.length (List.replicate x.length (-1)) (by omega) (by omega) (by omega) (by omega) (by omega) (by simp)
  refine Ev.bind h2 ?_
  rw [make_prog _ _ (by omega) (by omega)]
  exact Ev.now _
end
theorem wone (i : Nat) (h : 1 ≤ i) (h2 : i < 4611686018427387904) : wrap64 ((i : Int) - 1) = ((i - 1 : Nat) : Int) := by rw [w64 _ (by omega)]; omega
theorem wplus (a b : Nat) (h : a < 1000000) (h2 : b < 1000000) : wrap64 ((a : Int) + (b : Int)) = ((a + b : Nat) : Int) := by rw [w64 _ (by omega)]; omega
end Go.Proofs.Ytdcldoembdifpaa.Q
