/- plain: two texts side by side: both tell the same; what is asked for a change -/
import Derived.Test.YtchhelmilbheoaaDoorZAYd
import Derived.Test.YtchhelmilbheoaaDoorZAXx53
import Derived.Test.YtchhelmilbheoaaDoorZAXx54
import Derived.Test.YtchhelmilbheoaaDoorZAXx55
import Derived.Test.YtchhelmilbheoaaDoorZAXx56
namespace Go.Proofs.YtchhelmilbheoaaDoor.Q
set_option linter.unusedVariables false
set_option linter.unusedSimpArgs false
open Go.RowKit Go.Proofs.YtchhelmilbheoaaDoor.X Go.Proofs.YtchhelmilbheoaaDoorW.PrintWords Go.Proofs.YtchhelmilbheoaaDoorW.PrintLast Go.Proofs.YtchhelmilbheoaaDoorW.PrintMore
namespace V17
open H17 (bare bare_le bare_p bare_r bytes_eq dl bsz be rdS_nat getS_mem)
open H11 (Ch zc Small cko chk one rdCh_nat dropC check_p check_r)
/-- the row tells for the kept lines where they stand in the second text -/
def Kp (n : Int) (kp : List Int) : List Ch → Int → Int → Prop
  | [], i, j => ∀ t : Int, i ≤ t → t < n → rd kp t = j + (t - i)
  | c :: l, i, j => (∀ t : Int, i ≤ t → t < c.f0 → rd kp t = j + (t - i)) ∧ Kp n kp l (c.f0 + c.f1) (c.f2 + c.f3)
theorem up_rd (pre suf : List Int) (d : Nat) (i j : Int) (h0 : 0 ≤ i) (hp : (pre.length : Int) = i) (t : Int) (h1 : i ≤ t) (h2 : t < i + d) : rd (pre ++ (up j d ++ suf)) t = j + (t - i) := by
  obtain ⟨u, rfl⟩ : ∃ u : Nat, t = (u : Int) := ⟨t.toNat, by omega⟩
  rw [rd_nat, List.getD_eq_getElem?_getD, List.getElem?_append_right (by omega), List.getElem?_append_left (by rw [up_len]; omega), up_get d j (u - pre.length) (by omega), Option.getD_some]
  omega
theorem kl_kp {n m : Int} : ∀ (l : List Ch) (i j : Int) (pre : List Int), Al n m i j l → (pre.length : Int) = i → Kp n (pre ++ kl n l i j) l i j
  | [], i, j, pre, h, hp => by
    intro t h1 h2
    rw [kl, ← List.append_nil (up j (n - i).toNat)]
    exact up_rd pre [] _ i j h.1 hp t h1 (by omega)
  | c :: l, i, j, pre, h, hp => by
    obtain ⟨p0, p1, s0, s1, s2, s3, q1, q2, q3, q4, hl⟩ := h
    unfold Small at s0 s1 s2 s3
    rw [kl]
    refine ⟨fun t h1 h2 => up_rd pre _ _ i j p0 hp t h1 (by omega), ?_⟩
    have ih := kl_kp l (c.f0 + c.f1) (c.f2 + c.f3) (pre ++ (up j (c.f0 - i).toNat ++ List.replicate c.f1.toNat (-1))) hl (by rw [List.length_append, List.length_append, up_len, List.length_replicate]; omega)
    rw [List.append_assoc, List.append_assoc] at ih
    exact ih
abbrev bs (l : List UInt8) : ByteArray := ⟨l.toArray⟩
theorem app_nil (x : ByteArray) : x ++ bs [] = x := bytes_eq (by rw [Go.Joins.data_append, dl, List.append_nil])
theorem app_cons (x r : ByteArray) (l : List UInt8) : (x ++ r) ++ bs l = x ++ bs (r.data.toList ++ l) := bytes_eq (by rw [Go.Joins.data_append, Go.Joins.data_append, Go.Joins.data_append, dl, dl, List.append_assoc])
theorem app_app (x : ByteArray) (l1 l2 : List UInt8) : (x ++ bs l1) ++ bs l2 = x ++ bs (l1 ++ l2) := bytes_eq (by rw [Go.Joins.data_append, Go.Joins.data_append, Go.Joins.data_append, dl, dl, dl, List.append_assoc])
section
variable (wd : Int) (a b : List ByteArray) (h0 : 1 ≤ wd) (h1 : wd ≤ 200) (ha : ∀ s ∈ a, s.size ≤ 1048576) (hb : ∀ s ∈ b, s.size ≤ 1048576) (la : a.length ≤ 1048576) (lb : b.length ≤ 1048576) (all : List Ch) (hall : all.length ≤ 1048576) (kp : List Int) (hkp : kp.length = a.length)
include h0 h1 ha hb la lb hall hkp
set_option maxRecDepth 100000 in
theorem ref_kept (k0 : Nat) (c : Ch) (hk : k0 < all.length) (hc : all.getD k0 zc = c) (hca : c.f0 ≤ (a.length : Int)) (R : ByteArray × Int) : ∀ (n : Nat) (i j : Int) (out : ByteArray), 0 ≤ i → 0 ≤ j → i + n = c.f0 → j + n ≤ (b.length : Int) → (∀ t : Int, i ≤ t → t < c.f0 → rd kp t = j + (t - i)) → (out.size : Int) + 500 * n ≤ 100000000000 →
    Ev (fun k => redlineref17_Side.l2 k all a b wd kp (out ++ bs (keptT wd a b n i j)) (k0 : Int) 0) R → Ev (fun k => redlineref17_Side.l1 k all a b wd kp out i (k0 : Int)) R := by
  intro n
  induction n with
  | zero =>
    intro i j out p0 p1 hi hj hr ho h
    have u1 := hall
    rw [keptT, app_nil] at h
    apply Ev_unfold
    simp only [redlineref17_Side.l1, if_pos (show (0 : Int) ≤ (k0 : Int) by omega), if_pos (show (k0 : Int) < (all.length : Int) by omega), rdCh_nat, hc, if_neg (show ¬ i < c.f0 by omega)]
    exact h
  | succ n ih0 =>
    intro i j out p0 p1 hi hj hr ho h
    have hrow := row_r wd (rdOf be a i) sp (rdOf be b j) h0 h1 (by decide) (ha _ (rdS_mem p0 (by omega))) (hb _ (rdS_mem p1 (by omega)))
    have hsz := row_size wd (rdOf be a i) sp (rdOf be b j) h0 h1 (by decide)
    have ih := ih0 (i + 1) (j + 1) (out ++ rw_ wd (rdOf be a i) sp (rdOf be b j)) (by omega) (by omega) (by omega) (by omega) (fun t g1 g2 => by rw [hr t (by omega) g2]; omega) (by rw [ByteArray.size_append]; omega) (by
      rw [app_cons]
      rw [keptT] at h
      exact h)
    have w1 : wrap64 (i + 1) = i + 1 := w64 _ (by omega)
    have hrd : rd kp i = j := by rw [hr i (Int.le_refl _) (by omega)]; omega
    apply Ev_unfold
    simp only [redlineref17_Side.l1, if_pos (show (0 : Int) ≤ (k0 : Int) by omega), if_pos (show (k0 : Int) < (all.length : Int) by omega), rdCh_nat, hc, if_pos (show i < c.f0 by omega), if_pos p0, if_pos (show i < (a.length : Int) by omega), if_pos (show i < (kp.length : Int) by omega), hrd, if_pos p1, if_pos (show j < (b.length : Int) by omega)]
    refine Ev.bind hrow ?_
    simp only [if_pos (show out.size + (rw_ wd (rdOf be a i) sp (rdOf be b j)).size ≤ 9223372036854775807 by omega), w1]
    exact ih
set_option maxRecDepth 100000 in
theorem ref_chg (k0 : Nat) (c : Ch) (hk : k0 < all.length) (hc : all.getD k0 zc = c) (s0 : Small c.f0) (s1 : Small c.f1) (s2 : Small c.f2) (s3 : Small c.f3) (q3 : c.f0 + c.f1 ≤ (a.length : Int)) (q4 : c.f2 + c.f3 ≤ (b.length : Int)) (R : ByteArray × Int) : ∀ (n : Nat) (kk : Int) (out : ByteArray), 0 ≤ kk → kk + n = mx c.f1 c.f3 → (out.size : Int) + 500 * n ≤ 100000000000 →
    Ev (fun k => redlineref17_Side.l0 k all a b wd kp (out ++ bs (chgT wd a b c n kk)) (c.f0 + c.f1) ((k0 + 1 : Nat) : Int)) R → Ev (fun k => redlineref17_Side.l2 k all a b wd kp out (k0 : Int) kk) R := by
  intro n
  induction n with
  | zero =>
    intro kk out p0 hn ho h
    rw [chgT, app_nil] at h
    unfold Small at s0 s1 s2 s3
    apply Ev_unfold
    simp only [redlineref17_Side.l2, if_pos (show (0 : Int) ≤ (k0 : Int) by omega), if_pos (show (k0 : Int) < (all.length : Int) by omega), rdCh_nat, hc, if_neg (show ¬ kk < mx c.f1 c.f3 by omega), w64 (c.f0 + c.f1) (by omega), wadd k0 (by omega)]
    exact h
  | succ n ih0 =>
    intro kk out p0 hn ho h
    have hsz := chrow_size (a := a) (b := b) h0 h1 c kk
    have ih := ih0 (kk + 1) (out ++ chrow wd a b c kk) (by omega) (by omega) (by rw [ByteArray.size_append]; omega) (by
      rw [app_cons]
      rw [chgT] at h
      exact h)
    have t0 := s0; have t1 := s1; have t2 := s2; have t3 := s3
    unfold Small at t0 t1 t2 t3
    have hmx := mx_le t1.1 t3.1
    have hlt : kk < mx c.f1 c.f3 := by omega
    have w1 : wrap64 (kk + 1) = kk + 1 := w64 _ (by omega)
    have w2 : wrap64 (c.f0 + kk) = c.f0 + kk := w64 _ (by omega)
    have w3 : wrap64 (c.f2 + kk) = c.f2 + kk := w64 _ (by omega)
    have e0 : (⟨#[]⟩ : ByteArray).size ≤ 1048576 := by decide
    have hlt2 := hlt
    unfold mx at hlt2
    apply Ev_unfold
    simp only [redlineref17_Side.l2, if_pos (show (0 : Int) ≤ (k0 : Int) by omega), if_pos (show (k0 : Int) < (all.length : Int) by omega), rdCh_nat, hc, if_pos hlt, w1, w2, w3]
    by_cases g1 : kk ≥ c.f1
    · have g3 : kk < c.f3 := by split at hlt2 <;> omega
      have hrow := row_r wd (⟨#[]⟩ : ByteArray) (⟨#[62]⟩ : ByteArray) (rdOf be b (c.f2 + kk)) h0 h1 (by decide) e0 (hb _ (rdS_mem (by omega) (by omega)))
      have e : chrow wd a b c kk = rw_ wd (⟨#[]⟩ : ByteArray) (⟨#[62]⟩ : ByteArray) (rdOf be b (c.f2 + kk)) := by unfold chrow; rw [if_neg (by omega), if_pos g1]
      rw [e] at ih hsz
      simp only [if_pos g1, if_pos (show 0 ≤ c.f2 + kk by omega), if_pos (show c.f2 + kk < (b.length : Int) by omega)]
      refine Ev.bind hrow ?_
      simp only [if_pos (show out.size + (rw_ wd (⟨#[]⟩ : ByteArray) (⟨#[62]⟩ : ByteArray) (rdOf be b (c.f2 + kk))).size ≤ 9223372036854775807 by omega)]
      exact ih
    · simp only [if_neg g1]
      by_cases g3 : kk ≥ c.f3
      · have hrow := row_r wd (rdOf be a (c.f0 + kk)) (⟨#[60]⟩ : ByteArray) (⟨#[]⟩ : ByteArray) h0 h1 (by decide) (ha _ (rdS_mem (by omega) (by omega))) e0
        have e : chrow wd a b c kk = rw_ wd (rdOf be a (c.f0 + kk)) (⟨#[60]⟩ : ByteArray) (⟨#[]⟩ : ByteArray) := by unfold chrow; rw [if_pos g3]
        rw [e] at ih hsz
        simp only [if_pos g3, if_pos (show 0 ≤ c.f0 + kk by omega), if_pos (show c.f0 + kk < (a.length : Int) by omega)]
        refine Ev.bind hrow ?_
        simp only [if_pos (show out.size + (rw_ wd (rdOf be a (c.f0 + kk)) (⟨#[60]⟩ : ByteArray) (⟨#[]⟩ : ByteArray)).size ≤ 9223372036854775807 by omega)]
        exact ih
      · have hrow := row_r wd (rdOf be a (c.f0 + kk)) (⟨#[124]⟩ : ByteArray) (rdOf be b (c.f2 + kk)) h0 h1 (by decide) (ha _ (rdS_mem (by omega) (by omega))) (hb _ (rdS_mem (by omega) (by omega)))
        have e : chrow wd a b c kk = rw_ wd (rdOf be a (c.f0 + kk)) (⟨#[124]⟩ : ByteArray) (rdOf be b (c.f2 + kk)) := by unfold chrow; rw [if_neg g3, if_neg g1]
        rw [e] at ih hsz
        simp only [if_neg g3, if_pos (show 0 ≤ c.f0 + kk by omega), if_pos (show c.f0 + kk < (a.length : Int) by omega), if_pos (show 0 ≤ c.f2 + kk by omega), if_pos (show c.f2 + kk < (b.length : Int) by omega)]
        refine Ev.bind hrow ?_
        simp only [if_pos (show out.size + (rw_ wd (rdOf be a (c.f0 + kk)) (⟨#[124]⟩ : ByteArray) (rdOf be b (c.f2 + kk))).size ≤ 9223372036854775807 by omega)]
        exact ih
set_option maxRecDepth 100000 in
theorem ref_end : ∀ (n : Nat) (i j : Int) (out : ByteArray), 0 ≤ i → 0 ≤ j → i + n = (a.length : Int) → j + n ≤ (b.length : Int) → (∀ t : Int, i ≤ t → t < (a.length : Int) → rd kp t = j + (t - i)) → (out.size : Int) + 500 * n ≤ 100000000000 →
    Ev (fun k => redlineref17_Side.l3 k a b wd kp out i) (out ++ bs (keptT wd a b n i j), 0) := by
  intro n
  induction n with
  | zero =>
    intro i j out p0 p1 hi hj hr ho
    have u1 := hall
    rw [keptT, app_nil]
    apply Ev_unfold
    simp only [redlineref17_Side.l3, if_neg (show ¬ i < (a.length : Int) by omega)]
    exact Ev.now _
  | succ n ih0 =>
    intro i j out p0 p1 hi hj hr ho
    have hrow := row_r wd (rdOf be a i) sp (rdOf be b j) h0 h1 (by decide) (ha _ (rdS_mem p0 (by omega))) (hb _ (rdS_mem p1 (by omega)))
    have hsz := row_size wd (rdOf be a i) sp (rdOf be b j) h0 h1 (by decide)
    have ih := ih0 (i + 1) (j + 1) (out ++ rw_ wd (rdOf be a i) sp (rdOf be b j)) (by omega) (by omega) (by omega) (by omega) (fun t g1 g2 => by rw [hr t (by omega) g2]; omega) (by rw [ByteArray.size_append]; omega)
    rw [app_cons] at ih
    have w1 : wrap64 (i + 1) = i + 1 := w64 _ (by omega)
    have hrd : rd kp i = j := by rw [hr i (Int.le_refl _) (by omega)]; omega
    rw [keptT]
    apply Ev_unfold
    simp only [redlineref17_Side.l3, if_pos p0, if_pos (show i < (a.length : Int) by omega), if_pos (show i < (kp.length : Int) by omega), hrd, if_pos p1, if_pos (show j < (b.length : Int) by omega)]
    refine Ev.bind hrow ?_
    simp only [if_pos (show out.size + (rw_ wd (rdOf be a i) sp (rdOf be b j)).size ≤ 9223372036854775807 by omega), w1]
    exact ih
set_option maxRecDepth 100000 in
theorem ref_run : ∀ (l : List Ch) (k0 : Nat) (i j : Int) (out : ByteArray), all.drop k0 = l → k0 + l.length = all.length → Al (a.length : Int) (b.length : Int) i j l → Kp (a.length : Int) kp l i j → (out.size : Int) ≤ 500 * (i + j) → Ev (fun k => redlineref17_Side.l0 k all a b wd kp out i (k0 : Int)) (out ++ bs (runT wd a b l i j), 0)
  | [], k0, i, j, out, hd, hk, h, hK, ho => by
    rw [List.length_nil] at hk
    have h2 := h
    obtain ⟨p0, p1, p2, p3, p4⟩ := h2
    apply Ev_unfold
    simp only [redlineref17_Side.l0, if_neg (show ¬ (k0 : Int) < (all.length : Int) by omega)]
    rw [runT]
    exact ref_end wd a b h0 h1 ha hb la lb all hall kp hkp _ i j out p0 p1 (by omega) (by omega) hK (by omega)
  | c :: l, k0, i, j, out, hd, hk, h, hK, ho => by
    rw [List.length_cons] at hk
    obtain ⟨p0, p1, s0, s1, s2, s3, q1, q2, q3, q4, hl⟩ := h
    have t0 := s0; have t1 := s1; have t2 := s2; have t3 := s3
    unfold Small at t0 t1 t2 t3
    have hkl : k0 < all.length := by omega
    have hd2 := dropC all k0 hkl
    rw [hd] at hd2
    injection hd2 with hc hd3
    obtain ⟨n, hn⟩ : ∃ n : Nat, (c.f0 - i).toNat = n := ⟨_, rfl⟩
    obtain ⟨m, hm⟩ : ∃ m : Nat, (mx c.f1 c.f3).toNat = m := ⟨_, rfl⟩
    have hmx := mx_le t1.1 t3.1
    have l1 := kept_len (a := a) (b := b) h0 h1 n i j
    have l2 := chg_len (a := a) (b := b) h0 h1 c m 0
    have ih := ref_run l (k0 + 1) (c.f0 + c.f1) (c.f2 + c.f3) ((out ++ bs (keptT wd a b n i j)) ++ bs (chgT wd a b c m 0)) hd3.symm (by omega) hl hK.2 (by rw [ByteArray.size_append, ByteArray.size_append, bsz (keptT _ _ _ _ _ _), bsz (chgT _ _ _ _ _ _)]; omega)
    rw [app_app, app_app] at ih
    apply Ev_unfold
    simp only [redlineref17_Side.l0, if_pos (show (k0 : Int) < (all.length : Int) by omega)]
    rw [runT, hn, hm]
    refine ref_kept wd a b h0 h1 ha hb la lb all hall kp hkp k0 c hkl hc.symm (by omega) _ n i j out p0 p1 (by omega) (by omega) hK.1 (by omega) ?_
    refine ref_chg wd a b h0 h1 ha hb la lb all hall kp hkp k0 c hkl hc.symm s0 s1 s2 s3 q3 q4 _ m 0 _ (by omega) (by omega) (by rw [ByteArray.size_append, bsz (keptT _ _ _ _ _ _)]; omega) ?_
    rw [app_app]
    rw [List.append_assoc] at ih
    exact ih
end
theorem ref_side (wd : Int) (a b : List ByteArray) (h0 : 1 ≤ wd) (h1 : wd ≤ 200) (ha : ∀ s ∈ a, s.size ≤ 1048576) (hb : ∀ s ∈ b, s.size ≤ 1048576) (la : a.length ≤ 1048576) (lb : b.length ≤ 1048576) (l : List Ch) (hl : l.length ≤ 1048576) :
    Ev (fun k => redlineref17_Side.f k l a b wd) (if chk (a.length : Int) (b.length : Int) l true 0 0 = true then ((⟨(runT wd a b l 0 0).toArray⟩ : ByteArray), (0 : Int)) else (⟨#[]⟩, 50)) := by
  unfold redlineref17_Side.f
  refine Ev.bind (keep_f l a.length b.length la lb hl) ?_
  by_cases hc : chk (a.length : Int) (b.length : Int) l true 0 0 = true
  · simp only [if_pos hc, if_true, if_neg (show ¬ wd < 1 by omega), decide_eq_false (show ¬ wd > 200 by omega)]
    apply Ev_unfold
    simp only [redlineref17_Side.j0, Bool.false_eq_true, if_false]
    have hal := al_of l true 0 0 (by omega) (by omega) hc
    have h := ref_run wd a b h0 h1 ha hb la lb l hl (kl (a.length : Int) l 0 0) (by have := kl_len _ _ l 0 0 hal; omega) l 0 0 0 (⟨#[]⟩ : ByteArray) rfl (by omega) hal (by have := kl_kp l 0 0 [] hal rfl; rwa [List.nil_append] at this) (by decide)
    have e : (⟨#[]⟩ : ByteArray) ++ bs (runT wd a b l 0 0) = bs (runT wd a b l 0 0) := bytes_eq (by rw [Go.Joins.data_append, dl]; rfl)
    rw [e] at h
    exact h
  · simp only [if_neg hc, if_neg (show ¬ (50 : Int) = 0 by omega)]
    exact Ev.now _
theorem ref_side_bad (wd : Int) (a b : List ByteArray) (hw : wd < 1 ∨ wd > 200) (l : List Ch) (la : a.length ≤ 1048576) (lb : b.length ≤ 1048576) (hl : l.length ≤ 1048576) : Ev (fun k => redlineref17_Side.f k l a b wd) (if chk (a.length : Int) (b.length : Int) l true 0 0 = true then (⟨#[]⟩, 2) else (⟨#[]⟩, 50)) := by
  unfold redlineref17_Side.f
  refine Ev.bind (keep_f l a.length b.length la lb hl) ?_
  by_cases hc : chk (a.length : Int) (b.length : Int) l true 0 0 = true
  · simp only [if_pos hc, if_true]
    by_cases h : wd < 1
    · simp only [if_pos h]
      apply Ev_unfold
      simp only [redlineref17_Side.j0, if_true]
      exact Ev.now _
    · simp only [if_neg h, decide_eq_true (show wd > 200 by omega)]
      apply Ev_unfold
      simp only [redlineref17_Side.j0, if_true]
      exact Ev.now _
  · simp only [if_neg hc, if_neg (show ¬ (50 : Int) = 0 by omega)]
    exact Ev.now _
/-- both tell the same -/
theorem both (wd : Int) (a b : List ByteArray) (ha : ∀ s ∈ a, s.size ≤ 1048576) (hb : ∀ s ∈ b, s.size ≤ 1048576) (la : a.length ≤ 1048576) (lb : b.length ≤ 1048576) (l : List Ch) (hl : l.length ≤ 1048576) : ∃ R, Ev (fun k => views_Side.f k l a b wd) R ∧ Ev (fun k => redlineref17_Side.f k l a b wd) R := by
  by_cases hw : 1 ≤ wd ∧ wd ≤ 200
  · exact ⟨_, prog_side hw.1 hw.2 ha hb la lb l hl, ref_side wd a b hw.1 hw.2 ha hb la lb l hl⟩
  · exact ⟨_, prog_side_bad wd a b (by omega) l la lb hl, ref_side_bad wd a b (by omega) l la lb hl⟩
theorem al_get {n m : Int} : ∀ (l : List Ch) (a b : Int) (i : Nat), Al n m a b l → i < l.length → Small (l.getD i zc).f0 ∧ Small (l.getD i zc).f1 ∧ Small (l.getD i zc).f2 ∧ Small (l.getD i zc).f3 ∧ (l.getD i zc).f0 + (l.getD i zc).f1 ≤ n ∧ (l.getD i zc).f2 + (l.getD i zc).f3 ≤ m
  | [], a, b, i, h, hi => by rw [List.length_nil] at hi; omega
  | c :: l, a, b, 0, h, hi => by
    obtain ⟨p0, p1, s0, s1, s2, s3, q1, q2, q3, q4, hl⟩ := h
    exact ⟨s0, s1, s2, s3, q3, q4⟩
  | c :: l, a, b, i + 1, h, hi => by
    obtain ⟨p0, p1, s0, s1, s2, s3, q1, q2, q3, q4, hl⟩ := h
    have := al_get l _ _ i hl (by rw [List.length_cons] at hi; omega)
    simpa using this
theorem cut_mem {a : List ByteArray} {x y : Nat} {s : ByteArray} (h : s ∈ (a.take y).drop x) : s ∈ a := List.mem_of_mem_take (List.mem_of_mem_drop h)
theorem cut_len (a : List ByteArray) (x y : Nat) : ((a.take y).drop x).length ≤ a.length := by rw [List.length_drop, List.length_take]; omega
theorem ask_both (wd i : Int) (a b : List ByteArray) (ha : ∀ s ∈ a, s.size ≤ 1048576) (hb : ∀ s ∈ b, s.size ≤ 1048576) (la : a.length ≤ 1048576) (lb : b.length ≤ 1048576) (l : List Ch) (hl : l.length ≤ 1048576) : ∃ R, Ev (fun k => sdiff_Ask.f k l a b i wd) R ∧ Ev (fun k => redlineref21_Ask.f k l a b i wd) R := by
  have c1 := check_p (a.length : Int) (b.length : Int) (by omega) (by omega) l (by omega)
  have c2 := check_r (a.length : Int) (b.length : Int) (by omega) (by omega) l (by omega)
  unfold sdiff_Ask.f redlineref21_Ask.f
  suffices h : ∃ R : ByteArray × Int, Ev (fun k => (if cko (a.length : Int) (b.length : Int) l true 0 0 = 0 then _ else _)) R ∧ Ev (fun k => (if cko (a.length : Int) (b.length : Int) l true 0 0 = 0 then _ else _)) R by
    obtain ⟨R, h1, h2⟩ := h
    exact ⟨R, Ev.bind c1 h1, Ev.bind c2 h2⟩
  by_cases hc : cko (a.length : Int) (b.length : Int) l true 0 0 = 0
  case neg => simp only [if_neg hc]; exact ⟨_, Ev.now _, Ev.now _⟩
  simp only [if_pos hc]
  have hck : chk (a.length : Int) (b.length : Int) l true 0 0 = true := by
    unfold cko at hc
    by_cases h : chk (a.length : Int) (b.length : Int) l true 0 0 = true
    · exact h
    · rw [if_neg h] at hc; omega
  by_cases g1 : i < 0
  · simp only [if_pos g1]; exact ⟨_, Ev.now _, Ev.now _⟩
  simp only [if_neg g1]
  by_cases g2 : i ≥ (l.length : Int)
  · simp only [if_pos g2]; exact ⟨_, Ev.now _, Ev.now _⟩
  simp only [if_neg g2]
  by_cases g3 : wd < 1
  · simp only [if_pos g3]; exact ⟨_, Ev.now _, Ev.now _⟩
  simp only [if_neg g3]
  by_cases g4 : wd > 200
  · simp only [if_pos g4]; exact ⟨_, Ev.now _, Ev.now _⟩
  simp only [if_neg g4]
  obtain ⟨t, rfl⟩ : ∃ t : Nat, i = (t : Int) := ⟨i.toNat, by omega⟩
  have hal := al_get l 0 0 t (al_of l true 0 0 (by omega) (by omega) hck) (by omega)
  obtain ⟨c, hcc⟩ : ∃ c, l.getD t zc = c := ⟨_, rfl⟩
  rw [hcc] at hal
  obtain ⟨s0, s1, s2, s3, q3, q4⟩ := hal
  unfold Small at s0 s1 s2 s3
  have w1 : wrap64 (c.f0 + c.f1) = c.f0 + c.f1 := w64 _ (by omega)
  have w2 : wrap64 (c.f2 + c.f3) = c.f2 + c.f3 := w64 _ (by omega)
  simp only [rdCh_nat, hcc, w1, w2, if_pos (show (0 : Int) ≤ (t : Int) by omega), if_pos (show (t : Int) < (l.length : Int) by omega), if_pos s0.1, if_pos (show c.f0 ≤ c.f0 + c.f1 by omega), if_pos q3, if_pos s2.1, if_pos (show c.f2 ≤ c.f2 + c.f3 by omega), if_pos q4]
  have e1 := cut_len a c.f0.toNat (c.f0 + c.f1).toNat
  have e2 := cut_len b c.f2.toNat (c.f2 + c.f3).toNat
  obtain ⟨R, h1, h2⟩ := both wd ((a.take (c.f0 + c.f1).toNat).drop c.f0.toNat) ((b.take (c.f2 + c.f3).toNat).drop c.f2.toNat) (fun s h => ha s (cut_mem h)) (fun s h => hb s (cut_mem h)) (by omega) (by omega) [(⟨0, c.f1, 0, c.f3⟩ : Ch)] (by simp)
  exact ⟨_, Ev.bind h1 (Ev.now _), Ev.bind h2 (Ev.now _)⟩
theorem ask_all (wd i : Int) (a b : List ByteArray) (ha : ∀ s ∈ a, s.size ≤ 1048576) (hb : ∀ s ∈ b, s.size ≤ 1048576) (la : a.length ≤ 1048576) (lb : b.length ≤ 1048576) (l : List Ch) (hl : l.length ≤ 1048576) : Ev (fun k => redlinelaw21_SdiffAsks.f k l a b i wd) true := by
  obtain ⟨R, h1, h2⟩ := ask_both wd i a b ha hb la lb l hl
  unfold redlinelaw21_SdiffAsks.f
  refine Ev.bind h1 ?_
  refine Ev.bind h2 ?_
  simp only [if_true, beq_self_eq_true]
  exact Ev.now _
end V17
end Go.Proofs.YtchhelmilbheoaaDoor.Q
