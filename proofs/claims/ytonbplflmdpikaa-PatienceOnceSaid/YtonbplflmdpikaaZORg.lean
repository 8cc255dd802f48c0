/- plain: the reference's Keep of what Make has made: just what was kept -/
import Derived.Test.YtonbplflmdpikaaZOQh
import Derived.Test.YtonbplflmdpikaaZOXx43
import Derived.Test.YtonbplflmdpikaaZOXx44
import Derived.Test.YtonbplflmdpikaaZOXx45
namespace Go.Proofs.Ytonbplflmdpikaa.Q
set_option linter.unusedVariables false
set_option linter.unusedSimpArgs false
open Go.RowKit Go.Proofs.Ytonbplflmdpikaa.X Go.Proofs.YtonbplflmdpikaaW.PrintWords Go.Proofs.YtonbplflmdpikaaW.PrintLast Go.Proofs.YtonbplflmdpikaaW.PrintMore
namespace K5
theorem count_small {v : Int} (h : Small v) : redlineref05_count.f v = some true := by
  unfold redlineref05_count.f
  rw [if_pos (show v ≥ 0 from h.1), decide_eq_true h.2]
theorem check_step (n m x7 x8 : Int) (l : List Ch) (i : Nat) (c : Ch) (r : Int) (hi : i < l.length) (hl : l.length ≤ 2000000000) (hc : l.getD i z48 = c) (h0 : Small c.f0) (h1 : Small c.f1) (h2 : Small c.f2) (h3 : Small c.f3)
    (hne : ¬ (c.f1 = 0 ∧ c.f3 = 0)) (h7 : 0 ≤ x7 ∧ x7 ≤ c.f0) (h8 : 0 ≤ x8) (hi7 : 0 < i → x7 < c.f0) (he : c.f0 - x7 = c.f2 - x8)
    (h : Ev (fun k => redlineref05_Check.l0 k l n m (c.f0 + c.f1) (c.f2 + c.f3) ((i + 1 : Nat) : Int)) r) :
    Ev (fun k => redlineref05_Check.l0 k l n m x7 x8 (i : Int)) r := by
  have w1 : wrap64 (c.f0 - x7) = c.f0 - x7 := w64 _ (by unfold Small at *; omega)
  have w2 : wrap64 (c.f2 - x8) = c.f2 - x8 := w64 _ (by unfold Small at *; omega)
  have w3 : wrap64 (c.f0 + c.f1) = c.f0 + c.f1 := w64 _ (by unfold Small at *; omega)
  have w4 : wrap64 (c.f2 + c.f3) = c.f2 + c.f3 := w64 _ (by unfold Small at *; omega)
  have w5 : wrap64 (c.f1 + c.f3) = c.f1 + c.f3 := w64 _ (by unfold Small at *; omega)
  have g1 : ¬ c.f0 < x7 := by omega
  have q1 : (i : Int) < (l.length : Int) := by omega
  have q2 : (0 : Int) ≤ (i : Int) := by omega
  have e : (c.f1 + c.f3 == 0) = false := by
    rw [beq_eq_false_iff_ne]
    intro h
    unfold Small at *
    exact hne ⟨by omega, by omega⟩
  apply Ev_unfold
  simp only [redlineref05_Check.l0, if_pos q1, if_pos q2, rdCh_nat, hc, count_small h0, count_small h1, count_small h2, count_small h3, bsome, if_true, w5, e]
  apply Ev_unfold
  simp only [redlineref05_Check.j2, Bool.false_eq_true, if_false, w1, w2, w3, w4, wadd i (by omega), if_neg g1, he, if_true]
  by_cases hp : (i : Int) > 0
  · have g2 : ¬ c.f0 = x7 := by have := hi7 (by omega); omega
    simp only [if_pos hp, if_neg g2]
    exact h
  · simp only [if_neg hp]
    exact h
theorem check_end (n m x7 x8 : Int) (l : List Ch) (i : Nat) (hi : l.length ≤ i) (h7 : 0 ≤ x7 ∧ x7 ≤ n) (h8 : 0 ≤ x8 ∧ x8 ≤ m) (he : n - x7 = m - x8) (hn : n ≤ 2147483647) (hm : m ≤ 2147483647) :
    Ev (fun k => redlineref05_Check.l0 k l n m x7 x8 (i : Int)) 0 := by
  have w1 : wrap64 (n - x7) = n - x7 := w64 _ (by omega)
  have w2 : wrap64 (m - x8) = m - x8 := w64 _ (by omega)
  have q1 : ¬ (i : Int) < (l.length : Int) := by omega
  have q2 : ¬ x7 > n := by omega
  have q3 : ¬ x8 > m := by omega
  apply Ev_unfold
  simp only [redlineref05_Check.l0, if_neg q1, if_neg q2, if_neg q3, w1, w2, he, if_true]
  exact Ev.now _
theorem check_mk (n m : Int) (hn : n ≤ 1000000000) (hm : m ≤ 1000000000) (all : List Ch) (hall : all.length ≤ 2000000000) : ∀ (ks : List Int) (i a b x7 x8 : Int) (done : List Ch), all = done ++ mk m ks i a b → okK m ks (b - 1) = true → i + ks.length = n → 0 ≤ x7 → x7 ≤ a → a ≤ i → 0 ≤ x8 → a - x7 = b - x8 → b ≤ m → (0 < done.length → x7 < a) →
    Ev (fun k => redlineref05_Check.l0 k all n m x7 x8 (done.length : Int)) 0
  | [], i, a, b, x7, x8, done, ha, hok, hi, h7, h7a, hai, h8, he, hb, hd => by
    simp only [List.length_nil] at hi
    rw [mk] at ha
    by_cases hc : i > a ∨ m > b
    · rw [if_pos hc] at ha
      subst ha
      refine check_step n m x7 x8 _ done.length ⟨a, i - a, b, m - b⟩ 0 (by simp) hall (getD_end _ _ _ _) (by unfold Small; dsimp only; omega) (by unfold Small; dsimp only; omega) (by unfold Small; dsimp only; omega) (by unfold Small; dsimp only; omega) (by intro h; dsimp only at h; omega) ⟨h7, h7a⟩ h8 hd he ?_
      exact check_end n m _ _ _ _ (by simp) ⟨by dsimp only; omega, by dsimp only; omega⟩ ⟨by dsimp only; omega, by dsimp only; omega⟩ (by dsimp only; omega) (by omega) (by omega)
    · rw [if_neg hc, List.append_nil] at ha
      subst ha
      exact check_end n m _ _ _ _ (Nat.le_refl _) ⟨h7, by omega⟩ ⟨h8, by omega⟩ (by omega) (by omega) (by omega)
  | k :: ks, i, a, b, x7, x8, done, ha, hok, hi, h7, h7a, hai, h8, he, hb, hd => by
    simp only [List.length_cons] at hi
    rw [mk] at ha
    rw [okK] at hok
    by_cases h1 : k = -1
    · rw [if_pos h1] at ha hok
      exact check_mk n m hn hm all hall ks (i + 1) a b x7 x8 done ha hok (by omega) h7 h7a (by omega) h8 he hb hd
    rw [if_neg h1] at ha hok
    by_cases h2 : k ≤ b - 1
    · rw [if_pos h2] at hok; cases hok
    rw [if_neg h2] at hok
    by_cases h3 : k ≥ m
    · rw [if_pos h3] at hok; cases hok
    rw [if_neg h3] at hok
    have hok2 : okK m ks (k + 1 - 1) = true := by rw [show k + 1 - 1 = k by omega]; exact hok
    by_cases hc : i > a ∨ k > b
    · rw [if_pos hc, List.singleton_append] at ha
      have ih := check_mk n m hn hm all hall ks (i + 1) (i + 1) (k + 1) i k (done ++ [⟨a, i - a, b, k - b⟩]) (by rw [ha]; simp) hok2 (by omega) (by omega) (by omega) (by omega) (by omega) (by omega) (by omega) (by intro _; omega)
      rw [List.length_append, List.length_singleton] at ih
      refine check_step n m x7 x8 _ done.length ⟨a, i - a, b, k - b⟩ 0 (by rw [ha]; simp) hall (by rw [ha]; exact getD_end _ _ _ _) (by unfold Small; dsimp only; omega) (by unfold Small; dsimp only; omega) (by unfold Small; dsimp only; omega) (by unfold Small; dsimp only; omega) (by intro h; dsimp only at h; omega) ⟨h7, h7a⟩ h8 hd he ?_
      dsimp only
      rw [show a + (i - a) = i by omega, show b + (k - b) = k by omega]
      exact ih
    · rw [if_neg hc, List.nil_append] at ha
      exact check_mk n m hn hm all hall ks (i + 1) (i + 1) (k + 1) x7 x8 done ha hok2 (by omega) h7 (by omega) (by omega) h8 (by omega) (by omega) (by intro h; have := hd h; omega)
theorem mk_head (m : Int) : ∀ (ks : List Int) (i a b : Int), 0 ≤ a → a ≤ i → (mk m ks i a b = [] ∧ ¬ i > a) ∨ ∃ c r, mk m ks i a b = c :: r ∧ a ≤ c.f0 ∧ 0 ≤ c.f1 ∧ c.f0 + c.f1 ≤ i + ks.length ∧ (i > a → c.f0 = a ∧ i ≤ c.f0 + c.f1)
  | [], i, a, b, h0, h1 => by
    rw [mk]
    by_cases hc : i > a ∨ m > b
    · rw [if_pos hc]
      right
      exact ⟨_, _, rfl, by dsimp only; omega, by dsimp only; omega, by dsimp only [List.length_nil]; omega, fun _ => ⟨rfl, by dsimp only; omega⟩⟩
    · rw [if_neg hc]; left; exact ⟨rfl, fun h => hc (.inl h)⟩
  | k :: ks, i, a, b, h0, h1 => by
    rw [mk, List.length_cons]
    by_cases h : k = -1
    · rw [if_pos h]
      rcases mk_head m ks (i + 1) a b h0 (by omega) with ⟨e, g⟩ | ⟨c, r, e, g1, g2, g3, g4⟩
      · omega
      · right; exact ⟨c, r, e, g1, g2, by omega, fun _ => by have := g4 (by omega); omega⟩
    · rw [if_neg h]
      by_cases hc : i > a ∨ k > b
      · rw [if_pos hc, List.singleton_append]
        right
        exact ⟨_, _, rfl, by dsimp only; omega, by dsimp only; omega, by dsimp only; omega, fun _ => ⟨rfl, by dsimp only; omega⟩⟩
      · rw [if_neg hc, List.nil_append]
        rcases mk_head m ks (i + 1) (i + 1) (k + 1) (by omega) (by omega) with ⟨e, g⟩ | ⟨c, r, e, g1, g2, g3, g4⟩
        · left; exact ⟨e, fun h => hc (.inl h)⟩
        · right; exact ⟨c, r, e, by omega, g2, by omega, fun h => absurd (.inl h) hc⟩
/-- no change begins at or ahead of line i: it is kept -/
theorem keep_at (all : List Ch) (hall : all.length ≤ 2000000000) (n : Nat) (hn : n ≤ 1000000000) (i : Nat) (hi : i ≤ n) (b : Int) (hb : 0 ≤ b ∧ b ≤ 2000000000) (done : List Ch) (rest : List Ch) (ha : all = done ++ rest) (out : List Int) (ho : out.length ≤ n) (R : List Int × Int)
    (hrest : rest = [] ∨ ∃ c r, rest = c :: r ∧ (i : Int) < c.f0 ∧ 0 ≤ c.f1 ∧ c.f0 + c.f1 ≤ 2000000000)
    (H : Ev (fun k => redlineref05_Keep.l0 k all (n : Int) (out ++ [b]) (b + 1) (done.length : Int) ((i + 1 : Nat) : Int)) R) :
    Ev (fun k => redlineref05_Keep.l1 k all (n : Int) out b (done.length : Int) (i : Int)) R := by
  have w1 : wrap64 (b + 1) = b + 1 := w64 _ (by omega)
  have o1 : i < 4611686018427387904 := by omega
  have o2 : out.length < 17592186044416 := by omega
  apply Ev_unfold
  rcases hrest with h | ⟨c, r, h, g1, g2, g3⟩
  · subst h
    have q : ¬ (done.length : Int) < (all.length : Int) := by rw [ha]; simp
    simp only [redlineref05_Keep.l1, if_neg q, if_pos o2, w1, wadd i o1]
    exact H
  · subst h
    have q : (done.length : Int) < (all.length : Int) := by rw [ha]; simp; omega
    have hc : all.getD done.length z48 = c := by rw [ha]; exact getD_end _ _ _ _
    have w2 : wrap64 (c.f0 + c.f1) = c.f0 + c.f1 := w64 _ (by omega)
    have q2 : ¬ (i : Int) ≥ c.f0 + c.f1 := by omega
    have q3 : ¬ (i : Int) ≥ c.f0 := by omega
    simp only [redlineref05_Keep.l1, if_pos q, if_pos (show (0 : Int) ≤ (done.length : Int) by omega), rdCh_nat, hc, w2, if_neg q2, if_neg q3, if_pos o2, w1, wadd i o1]
    exact H
theorem keep_l (m : Int) (hm : m ≤ 1000000000) (all : List Ch) (hall : all.length ≤ 2000000000) (n : Nat) (hn : n ≤ 1000000000) : ∀ (ks : List Int) (i a : Nat) (b : Int) (done : List Ch) (out : List Int), all = done ++ mk m ks (i : Int) (a : Int) b → okK m ks (b - 1) = true → i + ks.length = n → a ≤ i → 0 ≤ b → b ≤ m → out.length = i →
    Ev (fun k => redlineref05_Keep.l0 k all (n : Int) out b (done.length : Int) (i : Int)) (out ++ ks, 0)
  | [], i, a, b, done, out, ha, hok, hi, hai, hb, hbm, ho => by
    simp only [List.length_nil] at hi
    apply Ev_unfold
    simp only [redlineref05_Keep.l0, if_neg (show ¬ (i : Int) < (n : Int) by omega), List.append_nil]
    exact Ev.now _
  | k :: ks, i, a, b, done, out, ha, hok, hi, hai, hb, hbm, ho => by
    simp only [List.length_cons] at hi
    apply Ev_unfold
    simp only [redlineref05_Keep.l0, if_pos (show (i : Int) < (n : Int) by omega)]
    have o1 : i < 4611686018427387904 := by omega
    have o2 : out.length < 17592186044416 := by omega
    have o3 : done.length < 4611686018427387904 := by
      have := congrArg List.length ha
      rw [List.length_append] at this
      omega
    rw [mk] at ha
    rw [okK] at hok
    rw [show out ++ k :: ks = (out ++ [k]) ++ ks from by simp]
    by_cases h1 : k = -1
    · rw [if_pos h1] at ha hok
      have ih := keep_l m hm all hall n hn ks (i + 1) a b done (out ++ [k]) (by rw [show ((i + 1 : Nat) : Int) = (i : Int) + 1 from by omega]; exact ha) hok (by omega) (by omega) hb hbm (by rw [List.length_append, List.length_singleton]; omega)
      rcases mk_head m ks ((i : Int) + 1) (a : Int) b (by omega) (by omega) with ⟨e, g⟩ | ⟨c, r, e, g1, g2, g3, g4⟩
      · omega
      · rw [e] at ha
        have q : (done.length : Int) < (all.length : Int) := by rw [ha]; simp; omega
        have hc : all.getD done.length z48 = c := by rw [ha]; exact getD_end _ _ _ _
        have g5 := g4 (by omega)
        have w2 : wrap64 (c.f0 + c.f1) = c.f0 + c.f1 := w64 _ (by omega)
        have q2 : ¬ (i : Int) ≥ c.f0 + c.f1 := by omega
        have q3 : (i : Int) ≥ c.f0 := by omega
        apply Ev_unfold
        simp only [redlineref05_Keep.l1, if_pos q, if_pos (show (0 : Int) ≤ (done.length : Int) by omega), rdCh_nat, hc, w2, if_neg q2, if_pos q3, if_pos o2, wadd i o1]
        rw [h1] at ih ⊢
        exact ih
    rw [if_neg h1] at ha hok
    by_cases h2 : k ≤ b - 1
    · rw [if_pos h2] at hok; cases hok
    rw [if_neg h2] at hok
    by_cases h3 : k ≥ m
    · rw [if_pos h3] at hok; cases hok
    rw [if_neg h3] at hok
    have hok2 : okK m ks (k + 1 - 1) = true := by rw [show k + 1 - 1 = k by omega]; exact hok
    have hrest : mk m ks ((i : Int) + 1) ((i : Int) + 1) (k + 1) = [] ∨ ∃ c r, mk m ks ((i : Int) + 1) ((i : Int) + 1) (k + 1) = c :: r ∧ (i : Int) < c.f0 ∧ 0 ≤ c.f1 ∧ c.f0 + c.f1 ≤ 2000000000 := by
      rcases mk_head m ks ((i : Int) + 1) ((i : Int) + 1) (k + 1) (by omega) (by omega) with ⟨e, g⟩ | ⟨c, r, e, g1, g2, g3, g4⟩
      · exact .inl e
      · exact .inr ⟨c, r, e, by omega, g2, by omega⟩
    by_cases hc : (i : Int) > (a : Int) ∨ k > b
    · rw [if_pos hc, List.singleton_append] at ha
      have q : (done.length : Int) < (all.length : Int) := by rw [ha]; simp; omega
      have hcc : all.getD done.length z48 = ⟨(a : Int), (i : Int) - (a : Int), b, k - b⟩ := by rw [ha]; exact getD_end _ _ _ _
      have w2 : wrap64 ((a : Int) + ((i : Int) - (a : Int))) = (i : Int) := (w64 _ (by omega)).trans (by omega)
      have w3 : wrap64 (b + (k - b)) = k := (w64 _ (by omega)).trans (by omega)
      have ha2 : all = (done ++ [⟨(a : Int), (i : Int) - (a : Int), b, k - b⟩]) ++ mk m ks ((i : Int) + 1) ((i : Int) + 1) (k + 1) := by rw [ha]; simp
      have ih := keep_l m hm all hall n hn ks (i + 1) (i + 1) (k + 1) (done ++ [⟨(a : Int), (i : Int) - (a : Int), b, k - b⟩]) (out ++ [k]) (by rw [show ((i + 1 : Nat) : Int) = (i : Int) + 1 from by omega]; exact ha2) hok2 (by omega) (by omega) (by omega) (by omega) (by rw [List.length_append, List.length_singleton]; omega)
      apply Ev_unfold
      simp only [redlineref05_Keep.l1, if_pos q, if_pos (show (0 : Int) ≤ (done.length : Int) by omega), rdCh_nat, hcc, w2, w3, if_pos (show (i : Int) ≥ (i : Int) by omega), wadd done.length o3]
      have := keep_at all hall n hn i (by omega) k (by omega) (done ++ [⟨(a : Int), (i : Int) - (a : Int), b, k - b⟩]) _ ha2 out (by omega) _ hrest ih
      rw [List.length_append, List.length_singleton] at this
      exact this
    · rw [if_neg hc, List.nil_append] at ha
      have e : k = b := by omega
      have ih := keep_l m hm all hall n hn ks (i + 1) (i + 1) (k + 1) done (out ++ [k]) (by rw [show ((i + 1 : Nat) : Int) = (i : Int) + 1 from by omega]; exact ha) hok2 (by omega) (by omega) (by omega) (by omega) (by rw [List.length_append, List.length_singleton]; omega)
      have := keep_at all hall n hn i (by omega) k (by omega) done _ ha out (by omega) _ hrest ih
      rw [← e]
      exact this
theorem keep_ref (keep : List Int) (m : Nat) (hl : keep.length < 100000) (hm : m ≤ 1000000000) (hok : okK m keep (-1) = true) : Ev (fun k => redlineref05_Keep.f k (mk m keep 0 0 0) (keep.length : Int) (m : Int)) (keep, 0) := by
  have ml := mk_len m keep 0 0 0
  have hc := check_mk (keep.length : Int) m (by omega) (by omega) (mk m keep 0 0 0) (by omega) keep 0 0 0 0 0 [] rfl hok (by omega) (by omega) (by omega) (by omega) (by omega) (by omega) (by omega) (by simp)
  unfold redlineref05_Keep.f
  have hck : Ev (fun k => redlineref05_Check.f k (mk m keep 0 0 0) (keep.length : Int) (m : Int)) 0 := by
    unfold redlineref05_Check.f
    simp only [if_neg (show ¬ (keep.length : Int) < 0 by omega), decide_eq_false (show ¬ (m : Int) < 0 by omega)]
    apply Ev_unfold
    simp only [redlineref05_Check.j0, Bool.false_eq_true, if_false]
    exact hc
  refine Ev.bind hck ?_
  simp only [if_true]
  have := keep_l (m : Int) (by omega) (mk m keep 0 0 0) (by omega) keep.length (by omega) keep 0 0 0 [] [] rfl hok (by omega) (by omega) (by omega) (by omega) rfl
  rw [List.nil_append] at this
  exact this
end K5
end Go.Proofs.Ytonbplflmdpikaa.Q
