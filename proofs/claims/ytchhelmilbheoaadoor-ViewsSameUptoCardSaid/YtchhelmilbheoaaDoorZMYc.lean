/- plain: two texts side by side: the program's -/
import Derived.Test.YtchhelmilbheoaaDoorZMYb
import Derived.Test.YtchhelmilbheoaaDoorZMXx41
import Derived.Test.YtchhelmilbheoaaDoorZMXx73
import Derived.Test.YtchhelmilbheoaaDoorZMXx75
import Derived.Test.YtchhelmilbheoaaDoorZMXx76
import Derived.Test.YtchhelmilbheoaaDoorZMXx81
namespace Go.Proofs.YtchhelmilbheoaaDoor.Q
set_option linter.unusedVariables false
set_option linter.unusedSimpArgs false
open Go.RowKit Go.Proofs.YtchhelmilbheoaaDoor.X Go.Proofs.YtchhelmilbheoaaDoorW.PrintWords Go.Proofs.YtchhelmilbheoaaDoorW.PrintLast Go.Proofs.YtchhelmilbheoaaDoorW.PrintMore
namespace V17
open H17 (bare bare_le bare_p bytes_eq dl bsz be rdS_nat getS_mem)
open H11 (Ch zc Small cko chk one rdCh_nat dropC check_p)
/-- changes that stand in order within both texts, the kept lines between them in step -/
def Al (n m : Int) : Int → Int → List Ch → Prop
  | a, b, [] => 0 ≤ a ∧ 0 ≤ b ∧ a ≤ n ∧ b ≤ m ∧ n - a = m - b
  | a, b, c :: l => 0 ≤ a ∧ 0 ≤ b ∧ Small c.f0 ∧ Small c.f1 ∧ Small c.f2 ∧ Small c.f3 ∧ a ≤ c.f0 ∧ c.f0 - a = c.f2 - b ∧ c.f0 + c.f1 ≤ n ∧ c.f2 + c.f3 ≤ m ∧ Al n m (c.f0 + c.f1) (c.f2 + c.f3) l
theorem al_of {n m : Int} : ∀ (l : List Ch) (fst : Bool) (a b : Int), 0 ≤ a → 0 ≤ b → chk n m l fst a b = true → Al n m a b l
  | [], fst, a, b, ha, hb, h => by rw [chk] at h; have := of_decide_eq_true h; exact ⟨ha, hb, this⟩
  | c :: l, fst, a, b, ha, hb, h => by
    rw [chk, Bool.and_eq_true] at h
    have h1 := of_decide_eq_true h.1
    have h2 := H11.chk_end l false _ _ h.2
    obtain ⟨s0, s1, s2, s3, _, q1, _, q2⟩ := h1
    have t0 := s0; have t1 := s1; have t2 := s2; have t3 := s3
    unfold Small at t0 t1 t2 t3
    exact ⟨ha, hb, s0, s1, s2, s3, q1, q2, h2.1, h2.2, al_of l false _ _ (by omega) (by omega) h.2⟩
section
variable (wd : Int) (a b : List ByteArray)
def keptT : Nat → Int → Int → List UInt8
  | 0, _, _ => []
  | n + 1, i, j => (rw_ wd (rdOf be a i) sp (rdOf be b j)).data.toList ++ keptT n (i + 1) (j + 1)
def chrow (c : Ch) (k : Int) : ByteArray := if k ≥ c.f3 then rw_ wd (rdOf be a (c.f0 + k)) ⟨#[60]⟩ ⟨#[]⟩ else if k ≥ c.f1 then rw_ wd ⟨#[]⟩ ⟨#[62]⟩ (rdOf be b (c.f2 + k)) else rw_ wd (rdOf be a (c.f0 + k)) ⟨#[124]⟩ (rdOf be b (c.f2 + k))
def chgT (c : Ch) : Nat → Int → List UInt8
  | 0, _ => []
  | n + 1, k => (chrow wd a b c k).data.toList ++ chgT c n (k + 1)
def runT : List Ch → Int → Int → List UInt8
  | [], i, j => keptT wd a b ((a.length : Int) - i).toNat i j
  | c :: l, i, j => keptT wd a b (c.f0 - i).toNat i j ++ (chgT wd a b c (mx c.f1 c.f3).toNat 0 ++ runT l (c.f0 + c.f1) (c.f2 + c.f3))
end
theorem rdS_mem {a : List ByteArray} {i : Int} (h0 : 0 ≤ i) (h1 : i < (a.length : Int)) : rdOf be a i ∈ a := by
  obtain ⟨j, rfl⟩ : ∃ j : Nat, i = (j : Int) := ⟨i.toNat, by omega⟩
  rw [rdS_nat]
  exact getS_mem a j (by omega)
section
variable {wd : Int} {a b : List ByteArray} (h0 : 1 ≤ wd) (h1 : wd ≤ 200) (ha : ∀ s ∈ a, s.size ≤ 1048576) (hb : ∀ s ∈ b, s.size ≤ 1048576)
include ha hb
theorem kept_p : ∀ (n : Nat) (i j : Int), 0 ≤ i → 0 ≤ j → i + n ≤ (a.length : Int) → j + n ≤ (b.length : Int) → Vs.kept wd a b n i j = some (keptT wd a b n i j)
  | 0, i, j, _, _, _, _ => rfl
  | n + 1, i, j, p0, p1, p2, p3 => by
    rw [Vs.kept, if_pos ⟨p0, by omega, p1, by omega⟩, show ByteArray.empty = be from rfl, row_p wd _ _ _ (ha _ (rdS_mem p0 (by omega))) (hb _ (rdS_mem p1 (by omega))), bsome, kept_p n (i + 1) (j + 1) (by omega) (by omega) (by omega) (by omega), bsome, keptT]
theorem chg_p (c : Ch) (s0 : Small c.f0) (s1 : Small c.f1) (s2 : Small c.f2) (s3 : Small c.f3) (q3 : c.f0 + c.f1 ≤ (a.length : Int)) (q4 : c.f2 + c.f3 ≤ (b.length : Int)) : ∀ (n : Nat) (k : Int), 0 ≤ k → k + n = mx c.f1 c.f3 → Vs.chg wd a b c n k = some (chgT wd a b c n k)
  | 0, k, _, _ => rfl
  | n + 1, k, p0, p1 => by
    unfold Small at s0 s1 s2 s3
    have ih := chg_p c s0 s1 s2 s3 q3 q4 n (k + 1) (by omega) (by omega)
    rw [Vs.chg, chgT, chrow]
    unfold mx at p1
    have e0 : (⟨#[]⟩ : ByteArray).size ≤ 1048576 := by decide
    by_cases g3 : k ≥ c.f3
    · have g1 : k < c.f1 := by split at p1 <;> omega
      rw [if_pos g3, if_pos g3, if_pos ⟨by omega, by omega⟩, show ByteArray.empty = be from rfl, row_p wd _ _ _ (ha _ (rdS_mem (by omega) (by omega))) e0, bsome, ih, bsome]
    · rw [if_neg g3, if_neg g3]
      by_cases g1 : k ≥ c.f1
      · rw [if_pos g1, if_pos g1, if_pos ⟨by omega, by omega⟩, show ByteArray.empty = be from rfl, row_p wd _ _ _ e0 (hb _ (rdS_mem (by omega) (by omega))), bsome, ih, bsome]
      · rw [if_neg g1, if_neg g1, if_pos ⟨by omega, by omega, by omega, by omega⟩, show ByteArray.empty = be from rfl, row_p wd _ _ _ (ha _ (rdS_mem (by omega) (by omega))) (hb _ (rdS_mem (by omega) (by omega))), bsome, ih, bsome]
end
section
variable {wd : Int} {a b : List ByteArray} (h0 : 1 ≤ wd) (h1 : wd ≤ 200)
include h0 h1
theorem kept_len : ∀ (n : Nat) (i j : Int), (keptT wd a b n i j).length ≤ 500 * n
  | 0, i, j => by simp [keptT]
  | n + 1, i, j => by
    have h := kept_len n (i + 1) (j + 1)
    have h2 := row_size wd (rdOf be a i) sp (rdOf be b j) h0 h1 (by decide)
    rw [keptT, List.length_append, ← Lib.size_eq]
    omega
theorem chrow_size (c : Ch) (k : Int) : (chrow wd a b c k).size ≤ 500 := by
  unfold chrow
  split
  · exact row_size wd _ _ _ h0 h1 (by decide)
  · split
    · exact row_size wd _ _ _ h0 h1 (by decide)
    · exact row_size wd _ _ _ h0 h1 (by decide)
theorem chg_len (c : Ch) : ∀ (n : Nat) (k : Int), (chgT wd a b c n k).length ≤ 500 * n
  | 0, k => by simp [chgT]
  | n + 1, k => by
    have h := chg_len c n (k + 1)
    have h2 := chrow_size (a := a) (b := b) h0 h1 c k
    rw [chgT, List.length_append, ← Lib.size_eq]
    omega
end
theorem mx_le {x y : Int} (hx : 0 ≤ x) (hy : 0 ≤ y) : mx x y ≤ x + y ∧ 0 ≤ mx x y := by unfold mx; split <;> omega
section
variable {wd : Int} {a b : List ByteArray} (h0 : 1 ≤ wd) (h1 : wd ≤ 200) (ha : ∀ s ∈ a, s.size ≤ 1048576) (hb : ∀ s ∈ b, s.size ≤ 1048576) (la : a.length ≤ 1048576) (lb : b.length ≤ 1048576)
include h0 h1 ha hb la lb
theorem run_p : ∀ (l : List Ch) (i j : Int) (acc : List UInt8), Al (a.length : Int) (b.length : Int) i j l → (acc.length : Int) ≤ 500 * (i + j) →
    ∃ i9 j9 acc9, Vs.run wd a b l i j acc = some (i9, j9, acc9) ∧ 0 ≤ i9 ∧ 0 ≤ j9 ∧ i9 ≤ (a.length : Int) ∧ j9 ≤ (b.length : Int) ∧ (a.length : Int) - i9 = (b.length : Int) - j9 ∧ (acc9.length : Int) ≤ 500 * (i9 + j9) ∧ acc9 ++ keptT wd a b ((a.length : Int) - i9).toNat i9 j9 = acc ++ runT wd a b l i j
  | [], i, j, acc, h, hacc => ⟨i, j, acc, rfl, h.1, h.2.1, h.2.2.1, h.2.2.2.1, h.2.2.2.2, hacc, rfl⟩
  | c :: l, i, j, acc, h, hacc => by
    obtain ⟨p0, p1, s0, s1, s2, s3, q1, q2, q3, q4, hl⟩ := h
    have t0 := s0; have t1 := s1; have t2 := s2; have t3 := s3
    unfold Small at t0 t1 t2 t3
    obtain ⟨n, hn⟩ : ∃ n : Nat, (c.f0 - i).toNat = n := ⟨_, rfl⟩
    obtain ⟨m, hm⟩ : ∃ m : Nat, (mx c.f1 c.f3).toNat = m := ⟨_, rfl⟩
    have hmx := mx_le t1.1 t3.1
    have k1 := kept_p (wd := wd) ha hb n i j p0 p1 (by omega) (by omega)
    have k2 := chg_p (wd := wd) ha hb c s0 s1 s2 s3 q3 q4 m 0 (by omega) (by omega)
    have l1 := kept_len (a := a) (b := b) h0 h1 n i j
    have l2 := chg_len (a := a) (b := b) h0 h1 c m 0
    have hacc2 : ((acc ++ keptT wd a b n i j ++ chgT wd a b c m 0).length : Int) ≤ 500 * ((c.f0 + c.f1) + (c.f2 + c.f3)) := by
      rw [List.length_append, List.length_append]
      omega
    obtain ⟨i9, j9, acc9, r1, r2, r3, r4, r5, r6, r7, r8⟩ := run_p l (c.f0 + c.f1) (c.f2 + c.f3) (acc ++ keptT wd a b n i j ++ chgT wd a b c m 0) hl hacc2
    refine ⟨i9, j9, acc9, ?_, r2, r3, r4, r5, r6, r7, ?_⟩
    · rw [Vs.run, if_pos (show Vs.okc (a.length : Int) (b.length : Int) i j c from ⟨p0, p1, q1, t1.1, q3, t2.1, t3.1, q4⟩), hn, hm, k1, bsome, k2, bsome, if_pos (show acc.length + (keptT wd a b n i j).length + (chgT wd a b c m 0).length ≤ 100000000000000 by omega)]
      exact r1
    · rw [r8, runT, hn, hm, List.append_assoc, List.append_assoc]
theorem prog_side (l : List Ch) (hl : l.length ≤ 1048576) : Ev (fun k => views_Side.f k l a b wd) (if chk (a.length : Int) (b.length : Int) l true 0 0 = true then ((⟨(runT wd a b l 0 0).toArray⟩ : ByteArray), (0 : Int)) else (⟨#[]⟩, 50)) := by
  unfold views_Side.f
  refine Ev.bind (check_p (a.length : Int) (b.length : Int) (by omega) (by omega) l (by omega)) ?_
  unfold cko
  by_cases hc : chk (a.length : Int) (b.length : Int) l true 0 0 = true
  · rw [if_pos hc]
    simp only [if_pos hc, if_true, if_neg (show ¬ wd < 1 by omega), if_neg (show ¬ wd > 200 by omega), if_pos (show l.length ≤ 1000000000000 ∧ a.length ≤ 1000000000000 ∧ b.length ≤ 1000000000000 from ⟨by omega, by omega, by omega⟩)]
    obtain ⟨i9, j9, acc9, r1, r2, r3, r4, r5, r6, r7, r8⟩ := run_p h0 h1 ha hb la lb l 0 0 [] (al_of l true 0 0 (by omega) (by omega) hc) (by simp)
    rw [List.nil_append] at r8
    obtain ⟨n, hn⟩ : ∃ n : Nat, ((a.length : Int) - i9).toNat = n := ⟨_, rfl⟩
    rw [hn] at r8
    have k1 := kept_p (wd := wd) ha hb n i9 j9 r2 r3 (by omega) (by omega)
    have l1 := kept_len (a := a) (b := b) h0 h1 n i9 j9
    simp only [r1, bsome, if_pos (show 0 ≤ i9 ∧ i9 ≤ (a.length : Int) from ⟨r2, r4⟩), hn, k1, if_pos (show acc9.length + (keptT wd a b n i9 j9).length ≤ 100000000000000 by omega), r8]
    exact Ev.now _
  · rw [if_neg hc]
    simp only [if_neg hc, if_neg (show ¬ (50 : Int) = 0 by omega)]
    exact Ev.now _
end
end V17
end Go.Proofs.YtchhelmilbheoaaDoor.Q
