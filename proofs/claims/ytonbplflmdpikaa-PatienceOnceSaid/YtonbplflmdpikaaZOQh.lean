/- Keep of what Make has made: just what was kept; Check finds it right. -/
import Derived.Test.YtonbplflmdpikaaZOQb
import Derived.Test.YtonbplflmdpikaaZOXx16
import Derived.Test.YtonbplflmdpikaaZOXx17
import Derived.Test.YtonbplflmdpikaaZOXx20
namespace Go.Proofs.Ytonbplflmdpikaa.Q
set_option linter.unusedVariables false
set_option linter.unusedSimpArgs false
open Go.RowKit Go.Proofs.Ytonbplflmdpikaa.X Go.Proofs.YtonbplflmdpikaaW.PrintWords Go.Proofs.YtonbplflmdpikaaW.PrintLast Go.Proofs.YtonbplflmdpikaaW.PrintMore
def Small (v : Int) : Prop := 0 ≤ v ∧ v ≤ 2147483647
theorem count_small {v : Int} (h : Small v) : edits_count.f v = some true := by
  unfold edits_count.f
  rw [if_pos (show v ≥ 0 from h.1), decide_eq_true h.2]
theorem check_step (n m x7 x8 : Int) (l : List Ch) (i : Nat) (c : Ch) (r : Int) (hi : i < l.length) (hl : l.length ≤ 2000000000) (hc : l.getD i z48 = c) (h0 : Small c.f0) (h1 : Small c.f1) (h2 : Small c.f2) (h3 : Small c.f3)
    (hne : ¬ (c.f1 = 0 ∧ c.f3 = 0)) (h7 : 0 ≤ x7 ∧ x7 ≤ c.f0) (h8 : 0 ≤ x8) (hi7 : 0 < i → x7 < c.f0) (he : c.f0 - x7 = c.f2 - x8)
    (h : Ev (fun k => edits_Check.l0 k n m (c.f0 + c.f1) (c.f2 + c.f3) l (l.length : Int) ((i + 1 : Nat) : Int)) r) :
    Ev (fun k => edits_Check.l0 k n m x7 x8 l (l.length : Int) (i : Int)) r := by
  have w1 : wrap64 (c.f0 - x7) = c.f0 - x7 := w64 _ (by unfold Small at *; omega)
  have w2 : wrap64 (c.f2 - x8) = c.f2 - x8 := w64 _ (by unfold Small at *; omega)
  have w3 : wrap64 (c.f0 + c.f1) = c.f0 + c.f1 := w64 _ (by unfold Small at *; omega)
  have w4 : wrap64 (c.f2 + c.f3) = c.f2 + c.f3 := w64 _ (by unfold Small at *; omega)
  have g1 : ¬ c.f0 - x7 < 0 := by omega
  have fin : Ev (fun k => edits_Check.j1 k n m x7 x8 (i : Int) l (l.length : Int) (i : Int) false c.f0 c.f1 c.f2 c.f3) r := by
    apply Ev_unfold
    simp only [edits_Check.j1, Bool.false_eq_true, if_false, w1, w2, w3, w4, wadd i (by omega), if_neg g1, he, if_true]
    rw [he] at g1
    by_cases hp : (i : Int) > 0
    · have g2 : ¬ c.f2 - x8 = 0 := by have := hi7 (by omega); omega
      simp only [if_pos hp, if_neg g2]
      simp only [if_neg g1]
      exact h
    · simp only [if_neg hp, if_neg g1]
      exact h
  have q1 : (i : Int) < (l.length : Int) := by omega
  have q2 : (0 : Int) ≤ (i : Int) := by omega
  apply Ev_unfold
  simp only [edits_Check.l0, if_pos q1, if_pos q2, rdCh_nat, hc, count_small h0, count_small h1, count_small h2, count_small h3, bsome, if_true]
  by_cases hz : c.f1 = 0
  · simp only [if_pos hz]
    have e : (c.f3 == 0) = false := by
      rw [beq_eq_false_iff_ne]
      intro h
      exact hne ⟨hz, h⟩
    rw [e]
    exact fin
  · simp only [if_neg hz]
    exact fin
theorem check_end (n m x7 x8 : Int) (l : List Ch) (i : Nat) (hi : l.length ≤ i) (h7 : 0 ≤ x7 ∧ x7 ≤ n) (h8 : 0 ≤ x8 ∧ x8 ≤ m) (he : n - x7 = m - x8) (hn : n ≤ 2147483647) (hm : m ≤ 2147483647) :
    Ev (fun k => edits_Check.l0 k n m x7 x8 l (l.length : Int) (i : Int)) 0 := by
  have w1 : wrap64 (n - x7) = n - x7 := w64 _ (by omega)
  have w2 : wrap64 (m - x8) = m - x8 := w64 _ (by omega)
  have q1 : ¬ (i : Int) < (l.length : Int) := by omega
  have q2 : ¬ x7 > n := by omega
  have q3 : ¬ x8 > m := by omega
  apply Ev_unfold
  simp only [edits_Check.l0, if_neg q1, if_neg q2, if_neg q3, w1, w2, he, if_true]
  exact Ev.now _
theorem getD_end {α : Type} (d : α) (a : List α) (x : α) (b : List α) : (a ++ x :: b).getD a.length d = x := by
  simp [List.getD_eq_getElem?_getD]
/-- Check of a script that Make has made -/
theorem check_mk (n m : Int) (hn : n ≤ 1000000000) (hm : m ≤ 1000000000) (all : List Ch) (hall : all.length ≤ 2000000000) : ∀ (ks : List Int) (i a b x7 x8 : Int) (done : List Ch), all = done ++ mk m ks i a b → okK m ks (b - 1) = true → i + ks.length = n → 0 ≤ x7 → x7 ≤ a → a ≤ i → 0 ≤ x8 → a - x7 = b - x8 → b ≤ m → (0 < done.length → x7 < a) →
    Ev (fun k => edits_Check.l0 k n m x7 x8 all (all.length : Int) (done.length : Int)) 0
  | [], i, a, b, x7, x8, done, ha, hok, hi, h7, h7a, hai, h8, he, hb, hd => by
    simp only [List.length_nil] at hi
    rw [mk] at ha
    by_cases hc : i > a ∨ m > b
    · rw [if_pos hc] at ha
      subst ha
      refine check_step n m x7 x8 _ done.length ⟨a, i - a, b, m - b⟩ 0 (by simp) hall (getD_end _ _ _ _) (by unfold Small; dsimp only; omega) (by unfold Small; dsimp only; omega) (by unfold Small; dsimp only; omega) (by unfold Small; dsimp only; omega) (by intro h; dsimp only at h; omega) ⟨h7, h7a⟩ h8 hd he ?_
      exact check_end n m _ _ _ _ (by simp) ⟨by dsimp only; omega, by dsimp only; omega⟩ ⟨by dsimp only; omega, by dsimp only; omega⟩ (by dsimp only; omega) (by omega) (by omega)
    · rw [if_neg hc, List.append_nil] at ha
      subst ha
      exact check_end n m _ _ _ _ (Nat.le_refl _) ⟨h7, by omega⟩ ⟨h8, by omega⟩ (by omega) (by omega) (by omega)
  | k :: ks, i, a, b, x7, x8, done, ha, hok, hi, h7, h7a, hai, h8, he, hb, hd => by
    simp only [List.length_cons] at hi
    rw [mk] at ha
    rw [okK] at hok
    by_cases h1 : k = -1
    · rw [if_pos h1] at ha hok
      exact check_mk n m hn hm all hall ks (i + 1) a b x7 x8 done ha hok (by omega) h7 h7a (by omega) h8 he hb hd
    rw [if_neg h1] at ha hok
    by_cases h2 : k ≤ b - 1
    · rw [if_pos h2] at hok; cases hok
    rw [if_neg h2] at hok
    by_cases h3 : k ≥ m
    · rw [if_pos h3] at hok; cases hok
    rw [if_neg h3] at hok
    have hok2 : okK m ks (k + 1 - 1) = true := by rw [show k + 1 - 1 = k by omega]; exact hok
    by_cases hc : i > a ∨ k > b
    · rw [if_pos hc, List.singleton_append] at ha
      have ih := check_mk n m hn hm all hall ks (i + 1) (i + 1) (k + 1) i k (done ++ [⟨a, i - a, b, k - b⟩]) (by rw [ha]; simp) hok2 (by omega) (by omega) (by omega) (by omega) (by omega) (by omega) (by omega) (by intro _; omega)
      rw [List.length_append, List.length_singleton] at ih
      refine check_step n m x7 x8 _ done.length ⟨a, i - a, b, k - b⟩ 0 (by rw [ha]; simp) hall (by rw [ha]; exact getD_end _ _ _ _) (by unfold Small; dsimp only; omega) (by unfold Small; dsimp only; omega) (by unfold Small; dsimp only; omega) (by unfold Small; dsimp only; omega) (by intro h; dsimp only at h; omega) ⟨h7, h7a⟩ h8 hd he ?_
      dsimp only
      rw [show a + (i - a) = i by omega, show b + (k - b) = k by omega]
      exact ih
    · rw [if_neg hc, List.nil_append] at ha
      exact check_mk n m hn hm all hall ks (i + 1) (i + 1) (k + 1) x7 x8 done ha hok2 (by omega) h7 (by omega) (by omega) h8 (by omega) (by omega) (by intro h; have := hd h; omega)
/-- the pieces of a script that Make has made -/
theorem first_upto (a n b n2 : Int) (i : Nat) (hb : 0 ≤ b ∧ b ≤ 2000000000) (hi : i ≤ 2000000000) : edits_Keep.first (⟨a, n, b, n2⟩, true) i = upto b i := by
  induction i with
  | zero => rfl
  | succ i ih =>
    have e : wrap64 (b + (i : Int)) = b + (i : Int) := w64 _ (by omega)
    rw [edits_Keep.first_kept, ih (by omega), upto_snoc]
    dsimp only
    rw [e]
theorem first_minus (c : Ch) (i : Nat) : edits_Keep.first (c, false) i = List.replicate i (-1) := rfl
def Fits (n : Int) (x : Ch × Bool) : Prop := 0 ≤ x.1.f1 ∧ x.1.f1 ≤ n
theorem runs_mk (n m : Int) (hn : n ≤ 1000000000) (hm : m ≤ 1000000000) : ∀ (ks : List Int) (i a b x7 x8 : Int), okK m ks (b - 1) = true → i + ks.length = n → 0 ≤ x7 → x7 ≤ a → a ≤ i → 0 ≤ x8 → a - x7 = b - x8 → b ≤ m →
    (∀ x ∈ edits_runs.list n x7 x8 (mk m ks i a b), Fits n x) ∧ (edits_runs.list n x7 x8 (mk m ks i a b)).flatMap edits_Keep.part = upto x8 (a - x7).toNat ++ List.replicate (i - a).toNat (-1) ++ ks
  | [], i, a, b, x7, x8, hok, hi, h7, h7a, hai, h8, he, hb => by
    simp only [List.length_nil] at hi
    have w1 : wrap64 (n - x7) = n - x7 := w64 _ (by omega)
    have w2 : wrap64 (a - x7) = a - x7 := w64 _ (by omega)
    have w3 : wrap64 (a + (i - a)) = i := (w64 _ (by omega)).trans (by omega)
    have w4 : wrap64 (b + (m - b)) = m := (w64 _ (by omega)).trans (by omega)
    rw [mk]
    by_cases hc : i > a ∨ m > b
    · rw [if_pos hc, edits_runs.list, edits_runs.list]
      dsimp only
      rw [w2, w3, w4, if_neg (show ¬ n > i by omega)]
      by_cases hx : a > x7
      · rw [if_pos hx]
        refine ⟨?_, ?_⟩
        · intro x hx
          simp only [List.cons_append, List.nil_append, List.mem_cons, List.not_mem_nil, or_false] at hx
          rcases hx with rfl | rfl <;> (unfold Fits; dsimp only; omega)
        · simp only [List.cons_append, List.nil_append, List.flatMap_cons, List.flatMap_nil, List.append_nil, edits_Keep.part, first_minus]
          rw [first_upto _ _ _ _ _ (by omega) (by omega)]
      · rw [if_neg hx]
        refine ⟨?_, ?_⟩
        · intro x hx
          simp only [List.nil_append, List.mem_cons, List.not_mem_nil, or_false] at hx
          subst hx
          unfold Fits
          dsimp only
          omega
        · simp only [List.nil_append, List.flatMap_cons, List.flatMap_nil, List.append_nil, edits_Keep.part, first_minus]
          rw [show (a - x7).toNat = 0 by omega]
          rfl
    · rw [if_neg hc, edits_runs.list]
      by_cases hx : n > x7
      · rw [if_pos hx, w1]
        refine ⟨?_, ?_⟩
        · intro x hx
          simp only [List.mem_cons, List.not_mem_nil, or_false] at hx
          subst hx
          unfold Fits
          dsimp only
          omega
        · simp only [List.flatMap_cons, List.flatMap_nil, List.append_nil, edits_Keep.part]
          rw [first_upto _ _ _ _ _ (by omega) (by omega), show (i - a).toNat = 0 by omega, show n - x7 = a - x7 by omega]
          simp
      · rw [if_neg hx]
        refine ⟨by simp, ?_⟩
        rw [show (i - a).toNat = 0 by omega, show (a - x7).toNat = 0 by omega]
        rfl
  | k :: ks, i, a, b, x7, x8, hok, hi, h7, h7a, hai, h8, he, hb => by
    simp only [List.length_cons] at hi
    rw [okK] at hok
    rw [mk]
    by_cases h1 : k = -1
    · rw [if_pos h1] at hok ⊢
      obtain ⟨ih1, ih2⟩ := runs_mk n m hn hm ks (i + 1) a b x7 x8 hok (by omega) h7 h7a (by omega) h8 he hb
      refine ⟨ih1, ?_⟩
      rw [ih2, show (i + 1 - a).toNat = (i - a).toNat + 1 by omega, List.replicate_succ', h1]
      simp
    rw [if_neg h1] at hok ⊢
    by_cases h2 : k ≤ b - 1
    · rw [if_pos h2] at hok; cases hok
    rw [if_neg h2] at hok
    by_cases h3 : k ≥ m
    · rw [if_pos h3] at hok; cases hok
    rw [if_neg h3] at hok
    have hok2 : okK m ks (k + 1 - 1) = true := by rw [show k + 1 - 1 = k by omega]; exact hok
    by_cases hc : i > a ∨ k > b
    · rw [if_pos hc, List.singleton_append]
      obtain ⟨ih1, ih2⟩ := runs_mk n m hn hm ks (i + 1) (i + 1) (k + 1) i k hok2 (by omega) (by omega) (by omega) (by omega) (by omega) (by omega) (by omega)
      rw [show (i + 1 - i).toNat = 1 by omega, show (i + 1 - (i + 1)).toNat = 0 by omega] at ih2
      have w2 : wrap64 (a - x7) = a - x7 := w64 _ (by omega)
      have w3 : wrap64 (a + (i - a)) = i := (w64 _ (by omega)).trans (by omega)
      have w4 : wrap64 (b + (k - b)) = k := (w64 _ (by omega)).trans (by omega)
      rw [edits_runs.list]
      dsimp only
      rw [w2, w3, w4]
      by_cases hx : a > x7
      · rw [if_pos hx]
        refine ⟨?_, ?_⟩
        · intro x hx
          simp only [List.cons_append, List.nil_append, List.mem_cons] at hx
          rcases hx with rfl | rfl | hx
          · unfold Fits; dsimp only; omega
          · unfold Fits; dsimp only; omega
          · exact ih1 x hx
        · simp only [List.cons_append, List.nil_append, List.flatMap_cons, ih2, edits_Keep.part, first_minus]
          rw [first_upto _ _ _ _ _ (by omega) (by omega)]
          simp [upto]
      · rw [if_neg hx]
        refine ⟨?_, ?_⟩
        · intro x hx
          simp only [List.nil_append, List.mem_cons] at hx
          rcases hx with rfl | hx
          · unfold Fits; dsimp only; omega
          · exact ih1 x hx
        · simp only [List.nil_append, List.flatMap_cons, ih2, edits_Keep.part, first_minus]
          rw [show (a - x7).toNat = 0 by omega]
          simp [upto]
    · rw [if_neg hc, List.nil_append]
      obtain ⟨ih1, ih2⟩ := runs_mk n m hn hm ks (i + 1) (i + 1) (k + 1) x7 x8 hok2 (by omega) h7 (by omega) (by omega) h8 (by omega) (by omega)
      refine ⟨ih1, ?_⟩
      rw [ih2, show (i + 1 - (i + 1)).toNat = 0 by omega, show (i - a).toNat = 0 by omega, show (i + 1 - x7).toNat = (a - x7).toNat + 1 by omega, upto_snoc, show x8 + ((a - x7).toNat : Int) = k by omega]
      simp
/-- Keep of Make -/
theorem keep_mk (keep : List Int) (m : Nat) (hl : keep.length < 100000) (hm : m ≤ 1000000000) (hok : okK m keep (-1) = true) : Ev (fun k => edits_Keep.f k (mk m keep 0 0 0) (keep.length : Int) (m : Int)) (keep, 0) := by
  have ml := mk_len m keep 0 0 0
  obtain ⟨h1, h2⟩ := runs_mk (keep.length : Int) m (by omega) (by omega) keep 0 0 0 0 0 hok (by omega) (by omega) (by omega) (by omega) (by omega) (by omega) (by omega)
  have hc := check_mk (keep.length : Int) m (by omega) (by omega) (mk m keep 0 0 0) (by omega) keep 0 0 0 0 0 [] rfl hok (by omega) (by omega) (by omega) (by omega) (by omega) (by omega) (by omega) (by simp)
  unfold edits_Keep.f
  refine Ev.bind hc ?_
  have e : upto 0 ((0 : Int) - 0).toNat ++ List.replicate ((0 : Int) - 0).toNat (-1) ++ keep = keep := rfl
  simp only [ne_eq, not_true_eq_false, if_false, h2, e]
  rw [if_pos ⟨by have := ml; omega, by omega, h1⟩]
  exact Ev.now _
end Go.Proofs.Ytonbplflmdpikaa.Q
