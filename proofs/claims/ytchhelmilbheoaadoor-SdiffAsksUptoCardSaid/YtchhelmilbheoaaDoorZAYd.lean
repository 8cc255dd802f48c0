/- plain: two texts side by side: the reference's -/
import Derived.Test.YtchhelmilbheoaaDoorZAYc
namespace Go.Proofs.YtchhelmilbheoaaDoor.Q
set_option linter.unusedVariables false
set_option linter.unusedSimpArgs false
open Go.RowKit Go.Proofs.YtchhelmilbheoaaDoor.X Go.Proofs.YtchhelmilbheoaaDoorW.PrintWords Go.Proofs.YtchhelmilbheoaaDoorW.PrintLast Go.Proofs.YtchhelmilbheoaaDoorW.PrintMore
namespace V17
open H17 (bare bare_le bare_p bare_r bytes_eq dl bsz be rdS_nat getS_mem)
open H11 (Ch zc Small cko chk one rdCh_nat dropC check_p check_r)
theorem Ev_prev {α : Type} {f g : Nat → Option α} {r : α} (h : Ev g r) (e : ∀ k, g (k + 1) = f k) : Ev f r := by
  obtain ⟨K, hK⟩ := h
  exact ⟨K, fun k hk => by rw [← e k]; exact hK (k + 1) (by omega)⟩
/-! which line of the second text stands beside which of the first -/
def up (b : Int) : Nat → List Int
  | 0 => []
  | n + 1 => b :: up (b + 1) n
theorem up_len : ∀ (n : Nat) (b : Int), (up b n).length = n
  | 0, b => rfl
  | n + 1, b => by rw [up, List.length_cons, up_len n]
theorem up_get : ∀ (n : Nat) (b : Int) (t : Nat), t < n → (up b n)[t]? = some (b + t)
  | 0, b, t, h => by omega
  | n + 1, b, 0, h => by rw [up]; simp
  | n + 1, b, t + 1, h => by
    rw [up, List.getElem?_cons_succ, up_get n (b + 1) t (by omega)]
    congr 1
    omega
def kl (n : Int) : List Ch → Int → Int → List Int
  | [], i, j => up j (n - i).toNat
  | c :: l, i, j => up j (c.f0 - i).toNat ++ (List.replicate c.f1.toNat (-1) ++ kl n l (c.f0 + c.f1) (c.f2 + c.f3))
theorem kl_nil (n m : Int) : ∀ (l : List Ch) (j : Int), Al n m n j l → kl n l n j = []
  | [], j, h => by rw [kl, show (n - n).toNat = 0 by omega]; rfl
  | c :: l, j, h => by
    obtain ⟨p0, p1, s0, s1, s2, s3, q1, q2, q3, q4, hl⟩ := h
    unfold Small at s0 s1 s2 s3
    have e0 : c.f0 = n := by omega
    have e1 : c.f1 = 0 := by omega
    rw [kl, e0, e1, show (n - n).toNat = 0 by omega]
    rw [e0, e1, Int.add_zero] at hl
    rw [show (0 : Int).toNat = 0 from rfl, List.replicate_zero, Int.add_zero, kl_nil n m l _ hl]
    rfl
theorem kl_len (n m : Int) : ∀ (l : List Ch) (i j : Int), Al n m i j l → ((kl n l i j).length : Int) = n - i
  | [], i, j, h => by rw [kl, up_len]; have := h.2.2.1; omega
  | c :: l, i, j, h => by
    obtain ⟨p0, p1, s0, s1, s2, s3, q1, q2, q3, q4, hl⟩ := h
    have ih := kl_len n m l _ _ hl
    unfold Small at s0 s1 s2 s3
    rw [kl, List.length_append, List.length_append, up_len, List.length_replicate]
    omega
section
variable (all : List Ch) (n m : Int) (hn : n ≤ 1048576) (hm : m ≤ 1048576) (hall : all.length ≤ 1048576)
include hn hm hall
/-- kept lines, one by one, up to a place q -/
theorem keep_up (k0 : Nat) (q : Int) (R : List Int × Int) (hq : q ≤ n) (hstep : ∀ i : Int, i < q → (k0 : Int) < (all.length : Int) → i < (rd_T72 all (k0 : Int)).f0 ∧ Small (rd_T72 all (k0 : Int)).f0 ∧ Small (rd_T72 all (k0 : Int)).f1) : ∀ (d : Nat) (i b : Int) (out : List Int), 0 ≤ i → i + d = q → 0 ≤ b → b + d ≤ 5000000000 → (out.length : Int) = i →
    Ev (fun k => redlineref05_Keep.l0 k all n (out ++ up b d) (b + d) (k0 : Int) q) R → Ev (fun k => redlineref05_Keep.l0 k all n out b (k0 : Int) i) R
  | 0, i, b, out, hi, hd, hb, hb2, ho, h => by
    have u1 := hm
    have u2 := hall
    rw [up, List.append_nil, show b + ((0 : Nat) : Int) = b by omega, show q = i by omega] at h
    exact h
  | d + 1, i, b, out, hi, hd, hb, hb2, ho, h => by
    have ih := keep_up k0 q R hq hstep d (i + 1) (b + 1) (out ++ [b]) (by omega) (by omega) (by omega) (by omega) (by rw [List.length_append, List.length_singleton]; omega) (by
      rw [up] at h
      rw [List.append_assoc, List.singleton_append, show b + 1 + (d : Int) = b + ((d + 1 : Nat) : Int) by omega]
      exact h)
    have w1 : wrap64 (b + 1) = b + 1 := w64 _ (by omega)
    have w2 : wrap64 (i + 1) = i + 1 := w64 _ (by omega)
    apply Ev_unfold
    simp only [redlineref05_Keep.l0, if_pos (show i < n by omega)]
    apply Ev_unfold
    by_cases hk : (k0 : Int) < (all.length : Int)
    · obtain ⟨g1, g2, g3⟩ := hstep i (by omega) hk
      obtain ⟨c, hc⟩ : ∃ c, rd_T72 all (k0 : Int) = c := ⟨_, rfl⟩
      rw [hc] at g1 g2 g3
      unfold Small at g2 g3
      have w3 : wrap64 (c.f0 + c.f1) = c.f0 + c.f1 := w64 _ (by omega)
      simp only [redlineref05_Keep.l1, if_pos hk, if_pos (show (0 : Int) ≤ (k0 : Int) by omega), hc, w3, if_neg (show ¬ i ≥ c.f0 + c.f1 by omega), if_neg (show ¬ i ≥ c.f0 by omega), if_pos (show out.length < 17592186044416 by omega), w1, w2]
      exact ih
    · simp only [redlineref05_Keep.l1, if_neg hk, if_pos (show out.length < 17592186044416 by omega), w1, w2]
      exact ih
/-- lines that are taken out -/
theorem keep_out (k0 : Nat) (c : Ch) (hk : k0 < all.length) (hc : all.getD k0 zc = c) (s0 : Small c.f0) (s1 : Small c.f1) (q3 : c.f0 + c.f1 ≤ n) (b : Int) (R : List Int × Int) : ∀ (d : Nat) (i : Int) (out : List Int), c.f0 ≤ i → i + d = c.f0 + c.f1 → (out.length : Int) = i →
    Ev (fun k => redlineref05_Keep.l0 k all n (out ++ List.replicate d (-1)) b (k0 : Int) (c.f0 + c.f1)) R → Ev (fun k => redlineref05_Keep.l0 k all n out b (k0 : Int) i) R
  | 0, i, out, hi, hd, ho, h => by
    have u1 := hm
    have u2 := hall
    rw [List.replicate_zero, List.append_nil, show c.f0 + c.f1 = i by omega] at h
    exact h
  | d + 1, i, out, hi, hd, ho, h => by
    have ih := keep_out k0 c hk hc s0 s1 q3 b R d (i + 1) (out ++ [-1]) (by omega) (by omega) (by rw [List.length_append, List.length_singleton]; omega) (by
      rw [List.append_assoc, List.singleton_append, ← List.replicate_succ]
      exact h)
    unfold Small at s0 s1
    have w2 : wrap64 (i + 1) = i + 1 := w64 _ (by omega)
    have w3 : wrap64 (c.f0 + c.f1) = c.f0 + c.f1 := w64 _ (by omega)
    apply Ev_unfold
    simp only [redlineref05_Keep.l0, if_pos (show i < n by omega)]
    apply Ev_unfold
    simp only [redlineref05_Keep.l1, if_pos (show (k0 : Int) < (all.length : Int) by omega), if_pos (show (0 : Int) ≤ (k0 : Int) by omega), rdCh_nat, hc, w3, if_neg (show ¬ i ≥ c.f0 + c.f1 by omega), if_pos (show i ≥ c.f0 by omega), if_pos (show out.length < 17592186044416 by omega), w2]
    exact ih
theorem keep_run : ∀ (l : List Ch) (k0 : Nat) (i j : Int) (out : List Int), all.drop k0 = l → k0 + l.length = all.length → Al n m i j l → (out.length : Int) = i → Ev (fun k => redlineref05_Keep.l0 k all n out j (k0 : Int) i) (out ++ kl n l i j, 0)
  | [], k0, i, j, out, hd, hk, h, ho => by
    rw [List.length_nil] at hk
    refine keep_up all n m hn hm hall k0 n _ (by omega) (fun i _ h => absurd h (by omega)) (n - i).toNat i j out h.1 (by have := h.2.2.1; omega) h.2.1 (by have := h.2.2.2.1; omega) ho ?_
    apply Ev_unfold
    simp only [redlineref05_Keep.l0, if_neg (show ¬ n < n by omega)]
    rw [kl]
    exact Ev.now _
  | c :: l, k0, i, j, out, hd, hk, h, ho => by
    rw [List.length_cons] at hk
    obtain ⟨p0, p1, s0, s1, s2, s3, q1, q2, q3, q4, hl⟩ := h
    have t0 := s0; have t1 := s1; have t2 := s2; have t3 := s3
    unfold Small at t0 t1 t2 t3
    have hkl : k0 < all.length := by omega
    have hd2 := dropC all k0 hkl
    rw [hd] at hd2
    injection hd2 with hc hd3
    have hcr : rd_T72 all (k0 : Int) = c := by rw [rdCh_nat, ← hc]
    refine keep_up all n m hn hm hall k0 c.f0 _ (by omega) (fun i hi _ => by rw [hcr]; exact ⟨hi, s0, s1⟩) (c.f0 - i).toNat i j out p0 (by omega) p1 (by omega) ho ?_
    refine keep_out all n m hn hm hall k0 c hkl hc.symm s0 s1 q3 _ _ c.f1.toNat c.f0 _ (by omega) (by omega) (by rw [List.length_append, up_len]; omega) ?_
    have hlen : ((out ++ up j (c.f0 - i).toNat ++ List.replicate c.f1.toNat (-1)).length : Int) = c.f0 + c.f1 := by
      rw [List.length_append, List.length_append, up_len, List.length_replicate]; omega
    have ih := keep_run l (k0 + 1) (c.f0 + c.f1) (c.f2 + c.f3) (out ++ up j (c.f0 - i).toNat ++ List.replicate c.f1.toNat (-1)) hd3.symm (by omega) hl hlen
    rw [kl, ← List.append_assoc, ← List.append_assoc]
    have w1 : wrap64 (c.f0 + c.f1) = c.f0 + c.f1 := w64 _ (by omega)
    have w2 : wrap64 (c.f2 + c.f3) = c.f2 + c.f3 := w64 _ (by omega)
    apply Ev_unfold
    by_cases hi : c.f0 + c.f1 < n
    · simp only [redlineref05_Keep.l0, if_pos hi]
      apply Ev_unfold
      simp only [redlineref05_Keep.l1, if_pos (show (k0 : Int) < (all.length : Int) by omega), if_pos (show (0 : Int) ≤ (k0 : Int) by omega), rdCh_nat, ← hc, w1, if_pos (show c.f0 + c.f1 ≥ c.f0 + c.f1 from Int.le_refl _), w2, wadd k0 (by omega)]
      exact Ev_prev ih (fun k => by simp only [redlineref05_Keep.l0, if_pos hi])
    · have e : c.f0 + c.f1 = n := by omega
      simp only [redlineref05_Keep.l0, if_neg hi]
      rw [e] at hl ⊢
      rw [kl_nil n m l _ hl, List.append_nil]
      exact Ev.now _
end
theorem keep_f (l : List Ch) (n m : Nat) (hn : n ≤ 1048576) (hm : m ≤ 1048576) (hl : l.length ≤ 1048576) : Ev (fun k => redlineref05_Keep.f k l (n : Int) (m : Int)) (if chk (n : Int) (m : Int) l true 0 0 = true then (kl (n : Int) l 0 0, 0) else ([], 50)) := by
  unfold redlineref05_Keep.f
  refine Ev.bind (check_r (n : Int) (m : Int) (by omega) (by omega) l (by omega)) ?_
  unfold cko
  by_cases hc : chk (n : Int) (m : Int) l true 0 0 = true
  · simp only [if_pos hc, if_true]
    have h := keep_run l (n : Int) (m : Int) (by omega) (by omega) hl l 0 0 0 [] rfl (by omega) (al_of l true 0 0 (by omega) (by omega) hc) rfl
    rw [List.nil_append] at h
    exact h
  · simp only [if_neg hc, if_neg (show ¬ (50 : Int) = 0 by omega)]
    exact Ev.now _
end V17
end Go.Proofs.YtchhelmilbheoaaDoor.Q
