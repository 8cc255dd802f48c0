/- plain: the edit script of a row of hunks as the reference finds it; a copied row of hunks is the row; all is told equal -/
import Derived.Test.YtmnajajnbmlihaaZOVg
import Derived.Test.YtmnajajnbmlihaaZOXx23
import Derived.Test.YtmnajajnbmlihaaZOXx3
import Derived.Test.YtmnajajnbmlihaaZOXx34
import Derived.Test.YtmnajajnbmlihaaZOXx35
import Derived.Test.YtmnajajnbmlihaaZOXx4
import Derived.Test.YtmnajajnbmlihaaZOXx5
import Derived.Test.YtmnajajnbmlihaaZOXx6
namespace Go.Proofs.Ytmnajajnbmlihaa.Q
set_option linter.unusedVariables false
set_option linter.unusedSimpArgs false
open Go.RowKit Go.Proofs.Ytmnajajnbmlihaa.X Go.Proofs.YtmnajajnbmlihaaW.PrintWords Go.Proofs.YtmnajajnbmlihaaW.PrintLast Go.Proofs.YtmnajajnbmlihaaW.PrintMore
namespace H12
theorem set_end (l : List Ch) (c d : Ch) : (l ++ [c]).set l.length d = l ++ [d] := by
  rw [List.set_append_right _ _ (Nat.le_refl _), Nat.sub_self]; rfl
theorem set_last (l : List Ch) (d : Ch) (h : 0 < l.length) : l.set (l.length - 1) d = l.take (l.length - 1) ++ [d] := by
  rw [List.set_eq_take_append_cons_drop, if_pos (by omega), List.drop_eq_nil_of_le (by omega)]
theorem get_end (l : List Ch) (c : Ch) : (l ++ [c]).getD l.length zc = c := by
  rw [List.getD_eq_getElem?_getD, List.getElem?_append_right (Nat.le_refl _), Nat.sub_self]; rfl
section
variable (l : List Hk) (hll : l.length ≤ 1000000000000000) (hl : ∀ h ∈ l, h.f4.length ≤ 8000000000000) (hs : ∀ h ∈ l, ∀ m ∈ h.f4, m.f1.size ≤ 1000000000000000000)
include hll hl
theorem ch_r1 (i : Nat) (hi : i < l.length)
    (hk : ∀ out : List Ch, out.length + tot (l.drop (i + 1)) ≤ 8589934592 → Ev (fun k => redlineref11_Changes.l0 k l out ((i + 1 : Nat) : Int)) (chh (l.drop (i + 1)) out, 0)) :
    ∀ (d j : Nat) (out : List Ch) (a b : Int), j + d = (l.getD i zh).f4.length → out.length + ((l.getD i zh).f4.length - j) + tot (l.drop (i + 1)) ≤ 8589934592 →
      Ev (fun k => redlineref11_Changes.l1 k l out (i : Int) a b (j : Int)) (chh (l.drop (i + 1)) (chm ((l.getD i zh).f4.drop j) out a b), 0) := by
  obtain ⟨h, hh⟩ : ∃ h, l.getD i zh = h := ⟨_, rfl⟩
  rw [hh]
  have hm := hl h (hh ▸ getHk_mem l i hi)
  have oi : i < 4611686018427387904 := by omega
  intro d
  induction d with
  | zero =>
    intro j out a b hj ho
    apply Ev_unfold
    rw [List.drop_eq_nil_of_le (show h.f4.length ≤ j by omega), chm]
    simp only [redlineref11_Changes.l1, if_pos (show (0 : Int) ≤ (i : Int) by omega), if_pos (show (i : Int) < (l.length : Int) by omega), rdHk_nat, hh, if_neg (show ¬ (j : Int) < (h.f4.length : Int) by omega), wadd i oi]
    exact hk out (by omega)
  | succ d ih =>
    intro j out a b hj ho
    have oj : j < 4611686018427387904 := by omega
    apply Ev_unfold
    rw [dropMk h.f4 j (by omega), chm]
    obtain ⟨m, hmm⟩ : ∃ m, h.f4.getD j zm = m := ⟨_, rfl⟩
    rw [hmm]
    have hpl := put_len out a b m.f0
    simp only [redlineref11_Changes.l1, if_pos (show (0 : Int) ≤ (i : Int) by omega), if_pos (show (i : Int) < (l.length : Int) by omega), rdHk_nat, hh, if_pos (show (j : Int) < (h.f4.length : Int) by omega), if_pos (show (0 : Int) ≤ (j : Int) by omega), rdMk_nat, hmm]
    by_cases c1 : m.f0 = 32
    · simp only [if_pos c1, wadd j oj]
      exact ih (j + 1) out _ _ (by omega) (by omega)
    simp only [if_neg c1]
    have hj2 : ∀ bb : Bool, bb = !fits out a b → ∀ x : Int, x = wrap64 ((out.length : Int) - 1) → Ev (fun k => redlineref11_Changes.j2 k l out (i : Int) a b (j : Int) m.f0 x bb) (chh (l.drop (i + 1)) (if m.f0 = 45 then chm (h.f4.drop (j + 1)) (put out a b m.f0) (wrap64 (a + 1)) b else chm (h.f4.drop (j + 1)) (put out a b m.f0) a (wrap64 (b + 1))), 0) := by
      intro bb hb x hx
      apply Ev_unfold
      have q1 := ih (j + 1) (put out a b m.f0) (wrap64 (a + 1)) b (by omega) (by omega)
      have q2 := ih (j + 1) (put out a b m.f0) a (wrap64 (b + 1)) (by omega) (by omega)
      unfold put at q1 q2 ⊢
      cases bb with
      | false =>
        have hb2 : fits out a b = true := by cases hf : fits out a b with
          | true => rfl
          | false => rw [hf] at hb; cases hb
        have hn : 0 < out.length := by
          have := hb2
          unfold fits at this
          rw [Bool.and_eq_true] at this
          exact of_decide_eq_true this.1
        have hw : x = ((out.length - 1 : Nat) : Int) := hx.trans (wsub out.length 1 (by omega) (by omega))
        rw [if_pos hb2] at q1 q2 ⊢
        unfold bump at q1 q2 ⊢
        simp only [redlineref11_Changes.j2, Bool.false_eq_true, if_false, hw, if_pos (show (0 : Int) ≤ ((out.length - 1 : Nat) : Int) by omega), if_pos (show ((out.length - 1 : Nat) : Int) < (out.length : Int) by omega), Int.toNat_natCast, rdCh_nat, set_last out _ hn, wadd j oj]
        by_cases c2 : m.f0 = 45
        · simp only [if_pos c2] at q1 ⊢; exact q1
        · simp only [if_neg c2] at q2 ⊢; exact q2
      | true =>
        have hb2 : ¬ fits out a b = true := by
          intro e
          rw [e] at hb
          cases hb
        have hw : wrap64 (x + 1) = ((out.length : Nat) : Int) := by
          rw [hx, w64 ((out.length : Int) - 1) (by omega), w64 _ (by omega)]
          omega
        rw [if_neg hb2] at q1 q2 ⊢
        unfold bump at q1 q2 ⊢
        simp only [redlineref11_Changes.j2, if_true, if_pos (show out.length < 4398046511104 by omega), bsome, hw, if_pos (show (0 : Int) ≤ ((out.length : Nat) : Int) by omega), List.length_append, List.length_singleton, if_pos (show (out.length : Int) < ((out.length + 1 : Nat) : Int) by omega), Int.toNat_natCast, rdCh_nat, get_end, set_end, wadd j oj]
        by_cases c2 : m.f0 = 45
        · simp only [if_pos c2] at q1 ⊢; exact q1
        · simp only [if_neg c2] at q2 ⊢; exact q2
    by_cases hn : 0 < out.length
    · have hw : wrap64 ((out.length : Int) - 1) = ((out.length - 1 : Nat) : Int) := wsub out.length 1 (by omega) (by omega)
      have hj3 := hj2
      simp only [hw] at hj3
      simp only [hw, if_neg (show ¬ ((out.length - 1 : Nat) : Int) < 0 by omega), if_pos (show (0 : Int) ≤ ((out.length - 1 : Nat) : Int) by omega), if_pos (show ((out.length - 1 : Nat) : Int) < (out.length : Int) by omega), rdCh_nat]
      by_cases c3 : wrap64 ((out.getD (out.length - 1) zc).f0 + (out.getD (out.length - 1) zc).f1) = a
      · simp only [if_pos c3]
        refine hj3 _ ?_ _ rfl
        unfold fits
        rw [decide_eq_true hn, decide_eq_true c3, Bool.true_and, Bool.true_and]
        by_cases c4 : wrap64 ((out.getD (out.length - 1) zc).f2 + (out.getD (out.length - 1) zc).f3) = b
        · rw [decide_eq_true c4, bne_eq_false_iff_eq.mpr c4]; rfl
        · rw [decide_eq_false c4, bne_iff_ne.mpr c4]; rfl
      · simp only [if_neg c3]
        refine hj3 true ?_ _ rfl
        unfold fits
        rw [decide_eq_false c3, Bool.false_and, Bool.and_false]; rfl
    · have hw : wrap64 ((out.length : Int) - 1) < 0 := by rw [w64 _ (by omega)]; omega
      simp only [if_pos hw]
      refine hj2 true ?_ _ rfl
      unfold fits
      rw [decide_eq_false hn, Bool.false_and]; rfl
theorem ch_r0 (hc : ∀ h ∈ l, ckh h = 0) : ∀ (d i : Nat) (out : List Ch), i + d = l.length → out.length + tot (l.drop i) ≤ 8589934592 → Ev (fun k => redlineref11_Changes.l0 k l out (i : Int)) (chh (l.drop i) out, 0) := by
  intro d
  induction d with
  | zero =>
    intro i out hi ho
    apply Ev_unfold
    rw [List.drop_eq_nil_of_le (show l.length ≤ i by omega), chh]
    simp only [redlineref11_Changes.l0, if_neg (show ¬ (i : Int) < (l.length : Int) by omega)]
    exact Ev.now _
  | succ d ih =>
    intro i out hi ho
    apply Ev_unfold
    have ht := tot_mem l i (by omega)
    rw [dropHk l i (by omega), chh]
    have hst := at_eq (l.getD i zh) (ck_small (hc _ (getHk_mem l i (by omega))))
    simp only [redlineref11_Changes.l0, if_pos (show (i : Int) < (l.length : Int) by omega), if_pos (show (0 : Int) ≤ (i : Int) by omega), rdHk_nat, hst, bsome]
    have := ch_r1 l hll hl i (by omega) (fun o ho2 => ih (i + 1) o (by omega) ho2) (l.getD i zh).f4.length 0 out (pa (l.getD i zh)) (pb (l.getD i zh)) (by omega) (by omega)
    rw [List.drop_zero] at this
    exact this
include hs
theorem changes_r : Ev (fun k => redlineref11_Changes.f k l) (chs l) := by
  unfold redlineref11_Changes.f chs
  refine Ev.bind (order_r l hll hl hs) ?_
  by_cases h : ordo l = 0
  · simp only [if_pos h]
    have := ch_r0 l hll hl (cks_all (ordo_0 h).1) l.length 0 [] (by omega) (by rw [List.drop_zero, List.length_nil]; have := (ordo_0 h).2; omega)
    rw [List.drop_zero] at this
    exact this
  · simp only [if_neg h]; exact Ev.now _
end
theorem chh_len : ∀ (l : List Hk) (out : List Ch), (chh l out).length ≤ out.length + tot l
  | [], out => by rw [chh, tot]; omega
  | h :: l, out => by
    rw [chh, tot]
    have := chh_len l (chm h.f4 out (pa h) (pb h))
    have := chm_len h.f4 out (pa h) (pb h)
    omega
theorem chs_len (l : List Hk) : (chs l).1.length ≤ 8589934592 := by
  unfold chs
  by_cases h : ordo l = 0
  · rw [if_pos h]
    have := (ordo_0 h).2
    have := chh_len l []
    simp only [List.length_nil] at this
    show (chh l []).length ≤ _
    omega
  · rw [if_neg h]; exact Nat.zero_le _
/-! a copy is the row itself -/
theorem copy_e (l : List Hk) (hll : l.length ≤ 2513169434916) (hl : ∀ h ∈ l, h.f4.length ≤ 5864062014804) : Ev (fun k => redlineref11_Copy.f k l) l := by
  have go : ∀ (d i : Nat) (out : List Hk), i + d = l.length → out.length = i → Ev (fun k => redlineref11_Copy.l0 k l out (i : Int)) (out ++ l.drop i) := by
    intro d
    induction d with
    | zero =>
      intro i out hi ho
      apply Ev_unfold
      rw [List.drop_eq_nil_of_le (show l.length ≤ i by omega), List.append_nil]
      simp only [redlineref11_Copy.l0, if_neg (show ¬ (i : Int) < (l.length : Int) by omega)]
      exact Ev.now _
    | succ d ih =>
      intro i out hi ho
      apply Ev_unfold
      have o2 : i < 4611686018427387904 := by omega
      have hm := hl _ (getHk_mem l i (by omega))
      have hgo := ih (i + 1) (out ++ [l.getD i zh]) (by omega) (by rw [List.length_append, List.length_singleton]; omega)
      rw [List.append_assoc, List.singleton_append, ← dropHk l i (by omega)] at hgo
      simp only [redlineref11_Copy.l0, if_pos (show (i : Int) < (l.length : Int) by omega), if_pos (show (0 : Int) ≤ (i : Int) by omega), rdHk_nat, bsome, List.length_nil, Nat.zero_add, if_pos (show (l.getD i zh).f4.length < 5864062014805 by omega), if_pos (show out.length < 2513169434916 by omega), List.nil_append, wadd i o2]
      exact hgo
  unfold redlineref11_Copy.f
  have := go l.length 0 [] (by omega) rfl
  rw [List.drop_zero, List.nil_append] at this
  exact this
/-! equal rows are told equal -/
theorem same_m (x0 x1 x2 x3 y0 y1 y2 y3 : Int) (ms : List Mk) (hl : ms.length ≤ 1000000000000000) : ∀ (d i : Nat), i + d = ms.length → Ev (fun k => redlineref11_Same.l0 k (i : Int) x0 x1 x2 x3 ms y0 y1 y2 y3 ms) true := by
  intro d
  induction d with
  | zero =>
    intro i hi
    apply Ev_unfold
    simp only [redlineref11_Same.l0, if_neg (show ¬ (i : Int) < (ms.length : Int) by omega)]
    exact Ev.now _
  | succ d ih =>
    intro i hi
    apply Ev_unfold
    have o2 : i < 4611686018427387904 := by omega
    simp only [redlineref11_Same.l0, if_pos (show (i : Int) < (ms.length : Int) by omega), if_pos (show (0 : Int) ≤ (i : Int) by omega), beq_self_eq_true, Bool.not_true, Bool.or_false, Bool.false_eq_true, if_false, wadd i o2]
    exact ih (i + 1) (by omega)
theorem same_h (x0 x1 x2 x3 : Int) (ms : List Mk) (hl : ms.length ≤ 1000000000000000) : Ev (fun k => redlineref11_Same.f k x0 x1 x2 x3 ms x0 x1 x2 x3 ms) true := by
  unfold redlineref11_Same.f
  simp only [if_true, bne_self_eq_false]
  apply Ev_unfold
  simp only [redlineref11_Same.j0, Bool.false_eq_true, if_false]
  exact same_m _ _ _ _ _ _ _ _ ms hl ms.length 0 (by omega)
theorem same_hs (x : List Hk) (hl : x.length ≤ 1000000000000000) (hx : ∀ h ∈ x, h.f4.length ≤ 1000000000000000) : Ev (fun k => redlineref11_SameHunks.f k x x) true := by
  have go : ∀ (d i : Nat), i + d = x.length → Ev (fun k => redlineref11_SameHunks.l0 k x x (i : Int)) true := by
    intro d
    induction d with
    | zero =>
      intro i hi
      apply Ev_unfold
      simp only [redlineref11_SameHunks.l0, if_neg (show ¬ (i : Int) < (x.length : Int) by omega)]
      exact Ev.now _
    | succ d ih =>
      intro i hi
      apply Ev_unfold
      have o2 : i < 4611686018427387904 := by omega
      have hm := hx _ (getHk_mem x i (by omega))
      simp only [redlineref11_SameHunks.l0, if_pos (show (i : Int) < (x.length : Int) by omega), if_pos (show (0 : Int) ≤ (i : Int) by omega), rdHk_nat, wadd i o2]
      refine Ev.bind (same_h _ _ _ _ _ hm) ?_
      simp only [if_true]
      exact ih (i + 1) (by omega)
  unfold redlineref11_SameHunks.f
  simp only [if_true]
  exact go x.length 0 (by omega)
theorem same_c (x : List Ch) (hl : x.length ≤ 1000000000000000) : Ev (fun k => redlineref05_Same.f k x x) true := by
  have go : ∀ (d i : Nat), i + d = x.length → Ev (fun k => redlineref05_Same.l0 k x x (i : Int)) true := by
    intro d
    induction d with
    | zero =>
      intro i hi
      apply Ev_unfold
      simp only [redlineref05_Same.l0, if_neg (show ¬ (i : Int) < (x.length : Int) by omega)]
      exact Ev.now _
    | succ d ih =>
      intro i hi
      apply Ev_unfold
      have o2 : i < 4611686018427387904 := by omega
      simp only [redlineref05_Same.l0, if_pos (show (i : Int) < (x.length : Int) by omega), if_pos (show (0 : Int) ≤ (i : Int) by omega), beq_self_eq_true, Bool.not_true, Bool.or_false, Bool.false_eq_true, if_false, wadd i o2]
      exact ih (i + 1) (by omega)
  unfold redlineref05_Same.f
  simp only [if_true]
  exact go x.length 0 (by omega)
/-- the law's function is true -/
theorem ho_ev (l : List Hk) (hll : l.length ≤ 2513169434915) (hl : ∀ h ∈ l, h.f4.length ≤ 5864062014804) (hs : ∀ h ∈ l, ∀ m ∈ h.f4, m.f1.size ≤ 1000000000000000000) : Ev (fun k => redlinelaw11_HunksOrder.f k l) true := by
  have hl8 : ∀ h ∈ l, h.f4.length ≤ 8000000000000 := fun h hh => Nat.le_trans (hl h hh) (by omega)
  have hll8 : l.length ≤ 1000000000000000 := by omega
  unfold redlinelaw11_HunksOrder.f
  refine Ev.bind (copy_e l (by omega) hl) ?_
  refine Ev.bind (changes_p l hll8 hl8) ?_
  refine Ev.bind (changes_r l hll8 hl8 hs) ?_
  refine Ev.bind (order_p l hll8 hl8) ?_
  refine Ev.bind (order_r l hll8 hl8 hs) ?_
  simp only [if_true]
  refine Ev.bind (same_c _ (Nat.le_trans (chs_len l) (by omega))) ?_
  simp only [if_true]
  refine Ev.bind (same_hs l hll8 (fun h hh => Nat.le_trans (hl h hh) (by omega))) ?_
  exact Ev.now _
end H12
end Go.Proofs.Ytmnajajnbmlihaa.Q
