/- plain: the edit script of a row of hunks: the program's answer and the reference's -/
import Derived.Test.YtmnajajnbmlihaaZOVf
import Derived.Test.YtmnajajnbmlihaaZOXx23
import Derived.Test.YtmnajajnbmlihaaZOXx3
import Derived.Test.YtmnajajnbmlihaaZOXx34
import Derived.Test.YtmnajajnbmlihaaZOXx4
import Derived.Test.YtmnajajnbmlihaaZOXx5
import Derived.Test.YtmnajajnbmlihaaZOXx6
namespace Go.Proofs.Ytmnajajnbmlihaa.Q
set_option linter.unusedVariables false
set_option linter.unusedSimpArgs false
open Go.RowKit Go.Proofs.Ytmnajajnbmlihaa.X Go.Proofs.YtmnajajnbmlihaaW.PrintWords Go.Proofs.YtmnajajnbmlihaaW.PrintLast Go.Proofs.YtmnajajnbmlihaaW.PrintMore
namespace H12
abbrev Ch := S35
abbrev zc : Ch := z35
theorem rdCh_nat (l : List Ch) (i : Nat) : rd_T35 l (i : Int) = l.getD i zc := by
  have h : ∀ j : Int, j = (i : Int) → rd_T35 l j = l.getD i zc := by
    intro j h
    subst h
    rfl
  exact h _ rfl
/-! one line more -/
def fits (out : List Ch) (a b : Int) : Bool := decide (0 < out.length) && (decide (wrap64 ((out.getD (out.length - 1) zc).f0 + (out.getD (out.length - 1) zc).f1) = a) && decide (wrap64 ((out.getD (out.length - 1) zc).f2 + (out.getD (out.length - 1) zc).f3) = b))
def bump (c : Ch) (s : Int) : Ch := if s = 45 then ⟨c.f0, wrap64 (c.f1 + 1), c.f2, c.f3⟩ else ⟨c.f0, c.f1, c.f2, wrap64 (c.f3 + 1)⟩
def put (out : List Ch) (a b s : Int) : List Ch := if fits out a b = true then out.take (out.length - 1) ++ [bump (out.getD (out.length - 1) zc) s] else out ++ [bump ⟨a, 0, b, 0⟩ s]
theorem put_len (out : List Ch) (a b s : Int) : (put out a b s).length ≤ out.length + 1 := by
  unfold put
  split
  · rw [List.length_append, List.length_take, List.length_singleton]; omega
  · rw [List.length_append, List.length_singleton]; omega
/-- the changes of one hunk's lines -/
def chm : List Mk → List Ch → Int → Int → List Ch
  | [], out, _, _ => out
  | m :: l, out, a, b => if m.f0 = 32 then chm l out (wrap64 (a + 1)) (wrap64 (b + 1)) else if m.f0 = 45 then chm l (put out a b m.f0) (wrap64 (a + 1)) b else chm l (put out a b m.f0) a (wrap64 (b + 1))
def chh : List Hk → List Ch → List Ch
  | [], out => out
  | h :: l, out => chh l (chm h.f4 out (pa h) (pb h))
theorem chm_len : ∀ (l : List Mk) (out : List Ch) (a b : Int), (chm l out a b).length ≤ out.length + l.length
  | [], out, a, b => by rw [chm]; omega
  | m :: l, out, a, b => by
    rw [chm, List.length_cons]
    have h1 := put_len out a b m.f0
    split
    · have := chm_len l out (wrap64 (a + 1)) (wrap64 (b + 1)); omega
    · split
      · have := chm_len l (put out a b m.f0) (wrap64 (a + 1)) b; omega
      · have := chm_len l (put out a b m.f0) a (wrap64 (b + 1)); omega
def tot : List Hk → Nat
  | [] => 0
  | h :: l => h.f4.length + tot l
/-! a hunk that is right has no more lines than it says -/
theorem RF_len : ∀ (ms : List Mk), RF ms = true → ms.length ≤ (pk 45 ms).length + (pk 43 ms).length
  | [], _ => by simp
  | m :: l, h => by
    have h2 : ((lk m.f1 && (io m || inw m)) && (fd m.f1 || !((io m && l.any io) || (inw m && l.any inw))) && RF l) = true := h
    simp only [Bool.and_eq_true] at h2
    have ih := RF_len l h2.2
    have h3 := h2.1.1.2
    unfold io inw at h3
    simp only [Bool.or_eq_true, beq_iff_eq] at h3
    rw [pk_cons, pk_cons, List.length_cons]
    by_cases a1 : m.f0 = 32 ∨ m.f0 = 45
    · rw [if_pos a1, List.length_cons]
      split
      · rw [List.length_cons]; omega
      · omega
    · have a2 : m.f0 = 32 ∨ m.f0 = 43 := h3.elim (fun e => absurd e a1) id
      rw [if_neg a1, if_pos a2, List.length_cons]; omega
theorem ckh_ok {h : Hk} (e : ckh h = 0) : Sm h.f0 ∧ Sm h.f1 ∧ Sm h.f2 ∧ Sm h.f3 ∧ 0 ≤ pa h ∧ pa h ≤ h.f0 ∧ 0 ≤ pb h ∧ pb h ≤ h.f2 ∧ (h.f4.length : Int) ≤ h.f1 + h.f3 := by
  have s := ck_small e
  unfold ckh ck at e
  by_cases hb : badr h.f0 h.f1 h.f2 h.f3
  · rw [if_pos hb] at e; omega
  rw [if_neg hb] at e
  by_cases hr : RF h.f4 = true
  case neg => rw [if_neg hr] at e; omega
  rw [if_pos hr] at e
  by_cases hc : h.f1 = ((pk 45 h.f4).length : Int) ∧ h.f3 = ((pk 43 h.f4).length : Int)
  case neg => rw [if_neg hc] at e; omega
  have hl := RF_len h.f4 hr
  have hb1 : ¬ (h.f0 = 0 ∧ h.f1 > 0) := fun q => hb (.inr (.inl q))
  have hb2 : ¬ (h.f2 = 0 ∧ h.f3 > 0) := fun q => hb (.inr (.inr q))
  obtain ⟨s0, s1, s2, s3⟩ := s
  have q0 := s0; have q1 := s1; have q2 := s2; have q3 := s3
  unfold Sm at q0 q1 q2 q3
  have m1 : mn 1 h.f1 = if h.f1 > 0 then 1 else 0 := by unfold mn; split <;> split <;> omega
  have m2 : mn 1 h.f3 = if h.f3 > 0 then 1 else 0 := by unfold mn; split <;> split <;> omega
  have p1 : 0 ≤ pa h ∧ pa h ≤ h.f0 := by
    unfold pa
    rw [m1]
    by_cases z : h.f1 > 0
    · rw [if_pos z, w64 _ (by omega)]; omega
    · rw [if_neg z, w64 _ (by omega)]; omega
  have p2 : 0 ≤ pb h ∧ pb h ≤ h.f2 := by
    unfold pb
    rw [m2]
    by_cases z : h.f3 > 0
    · rw [if_pos z, w64 _ (by omega)]; omega
    · rw [if_neg z, w64 _ (by omega)]; omega
  exact ⟨s0, s1, s2, s3, p1.1, p1.2, p2.1, p2.2, by omega⟩
theorem tot_le : ∀ (l : List Hk) (x y : Int), (∀ h ∈ l, ckh h = 0) → 0 ≤ x → x ≤ 4294967296 → 0 ≤ y → y ≤ 4294967296 → ords x y l = 0 → x + y + (tot l : Int) ≤ 8589934592
  | [], x, y, _, x1, x2, y1, y2, _ => by rw [tot]; omega
  | h :: l, x, y, hc, x1, x2, y1, y2, ho => by
    obtain ⟨s0, s1, s2, s3, a1, a2, b1, b2, hl⟩ := ckh_ok (hc h (List.mem_cons_self ..))
    unfold Sm at s0 s1 s2 s3
    rw [ords] at ho
    by_cases c1 : pa h < x
    · rw [if_pos c1] at ho; omega
    rw [if_neg c1] at ho
    by_cases c2 : wrap64 (pa h - x) = wrap64 (pb h - y)
    case neg => rw [if_neg c2] at ho; omega
    rw [if_pos c2] at ho
    rw [w64 (pa h + h.f1) (by omega), w64 (pb h + h.f3) (by omega)] at ho
    have c3 : pa h - x = pb h - y := by rw [w64 (pa h - x) (by omega), w64 (pb h - y) (by omega)] at c2; exact c2
    have := tot_le l _ _ (fun z hz => hc z (List.mem_cons_of_mem _ hz)) (by omega) (by omega) (by omega) (by omega) ho
    rw [tot]
    omega
theorem ordo_0 {l : List Hk} (h : ordo l = 0) : cks l = 0 ∧ tot l ≤ 8589934592 := by
  unfold ordo at h
  by_cases e : cks l = 0
  · rw [if_pos e] at h
    have := tot_le l 0 0 (cks_all e) (by omega) (by omega) (by omega) (by omega) h
    exact ⟨e, by omega⟩
  · rw [if_neg e] at h; exact absurd h e
theorem tot_mem : ∀ (l : List Hk) (i : Nat), i < l.length → tot (l.drop i) = (l.getD i zh).f4.length + tot (l.drop (i + 1)) := by
  intro l i h
  rw [dropHk l i h, tot]
/-! the program's loops -/
section
variable (l : List Hk) (hll : l.length ≤ 1000000000000000) (hl : ∀ h ∈ l, h.f4.length ≤ 8000000000000)
include hll hl
theorem ch_p1 (i : Nat) (hi : i < l.length)
    (hk : ∀ out : List Ch, out.length + tot (l.drop (i + 1)) ≤ 8589934592 → Ev (fun k => hunks_Changes.l0 k out l (l.length : Int) ((i + 1 : Nat) : Int)) (chh (l.drop (i + 1)) out, 0)) :
    ∀ (d j : Nat) (out : List Ch) (a b : Int), j + d = (l.getD i zh).f4.length → out.length + ((l.getD i zh).f4.length - j) + tot (l.drop (i + 1)) ≤ 8589934592 →
      Ev (fun k => hunks_Changes.l1 k out a b l (l.length : Int) (i : Int) (l.getD i zh).f4 ((l.getD i zh).f4.length : Int) (j : Int)) (chh (l.drop (i + 1)) (chm ((l.getD i zh).f4.drop j) out a b), 0) := by
  obtain ⟨h, hh⟩ : ∃ h, l.getD i zh = h := ⟨_, rfl⟩
  rw [hh]
  have hm := hl h (hh ▸ getHk_mem l i hi)
  have oi : i < 4611686018427387904 := by omega
  intro d
  induction d with
  | zero =>
    intro j out a b hj ho
    apply Ev_unfold
    rw [List.drop_eq_nil_of_le (show h.f4.length ≤ j by omega), chm]
    simp only [hunks_Changes.l1, if_neg (show ¬ (j : Int) < (h.f4.length : Int) by omega), wadd i oi]
    exact hk out (by omega)
  | succ d ih =>
    intro j out a b hj ho
    have oj : j < 4611686018427387904 := by omega
    apply Ev_unfold
    rw [dropMk h.f4 j (by omega), chm]
    obtain ⟨m, hmm⟩ : ∃ m, h.f4.getD j zm = m := ⟨_, rfl⟩
    rw [hmm]
    have hpl := put_len out a b m.f0
    simp only [hunks_Changes.l1, if_pos (show (j : Int) < (h.f4.length : Int) by omega), if_pos (show (0 : Int) ≤ (j : Int) by omega), rdMk_nat, hmm]
    by_cases c1 : m.f0 = 32
    · simp only [if_pos c1, wadd j oj]
      exact ih (j + 1) out _ _ (by omega) (by omega)
    simp only [if_neg c1]
    have hj2 : ∀ bb : Bool, bb = fits out a b → Ev (fun k => hunks_Changes.j2 k out a b (out.length : Int) l (l.length : Int) (i : Int) h.f4 (h.f4.length : Int) (j : Int) bb m.f0 m.f1 a 0 b 0) (if m.f0 = 45 then (chh (l.drop (i + 1)) (chm (h.f4.drop (j + 1)) (put out a b m.f0) (wrap64 (a + 1)) b), 0) else (chh (l.drop (i + 1)) (chm (h.f4.drop (j + 1)) (put out a b m.f0) a (wrap64 (b + 1))), 0)) := by
      intro bb hb
      apply Ev_unfold
      have q1 := ih (j + 1) (put out a b m.f0) (wrap64 (a + 1)) b (by omega) (by omega)
      have q2 := ih (j + 1) (put out a b m.f0) a (wrap64 (b + 1)) (by omega) (by omega)
      unfold put at q1 q2 ⊢
      cases bb with
      | true =>
        have hn : 0 < out.length := by
          have := hb.symm
          unfold fits at this
          rw [Bool.and_eq_true] at this
          exact of_decide_eq_true this.1
        have hw : wrap64 ((out.length : Int) - 1) = ((out.length - 1 : Nat) : Int) := wsub out.length 1 (by omega) (by omega)
        have ot : (out.take (out.length - 1)).length < 4398046511104 := by rw [List.length_take]; omega
        rw [← hb, if_pos rfl] at q1 q2 ⊢
        unfold bump at q1 q2 ⊢
        simp only [hunks_Changes.j2, if_true, hw, if_pos (show (0 : Int) ≤ ((out.length - 1 : Nat) : Int) by omega), if_pos (show ((out.length - 1 : Nat) : Int) < (out.length : Int) by omega), if_pos (show ((out.length - 1 : Nat) : Int) ≤ (out.length : Int) by omega), bsome, Int.toNat_natCast, rdCh_nat, if_pos ot, wadd j oj]
        by_cases c2 : m.f0 = 45
        · simp only [if_pos c2] at q1 ⊢; exact q1
        · simp only [if_neg c2] at q2 ⊢; exact q2
      | false =>
        rw [← hb, if_neg Bool.false_ne_true] at q1 q2 ⊢
        unfold bump at q1 q2 ⊢
        simp only [hunks_Changes.j2, Bool.false_eq_true, if_false, if_pos (show out.length < 4398046511104 by omega), wadd j oj]
        by_cases c2 : m.f0 = 45
        · simp only [if_pos c2] at q1 ⊢; exact q1
        · simp only [if_neg c2] at q2 ⊢; exact q2
    have hr : (if m.f0 = 45 then (chh (l.drop (i + 1)) (chm (h.f4.drop (j + 1)) (put out a b m.f0) (wrap64 (a + 1)) b), (0 : Int)) else (chh (l.drop (i + 1)) (chm (h.f4.drop (j + 1)) (put out a b m.f0) a (wrap64 (b + 1))), 0)) = (chh (l.drop (i + 1)) (if m.f0 = 45 then chm (h.f4.drop (j + 1)) (put out a b m.f0) (wrap64 (a + 1)) b else chm (h.f4.drop (j + 1)) (put out a b m.f0) a (wrap64 (b + 1))), 0) := by
      split <;> rfl
    rw [hr] at hj2
    by_cases hn : 0 < out.length
    · have hw : wrap64 ((out.length : Int) - 1) = ((out.length - 1 : Nat) : Int) := wsub out.length 1 (by omega) (by omega)
      simp only [if_pos (show (out.length : Int) > 0 by omega), hw, if_pos (show (0 : Int) ≤ ((out.length - 1 : Nat) : Int) by omega), if_pos (show ((out.length - 1 : Nat) : Int) < (out.length : Int) by omega), rdCh_nat]
      by_cases c3 : wrap64 ((out.getD (out.length - 1) zc).f0 + (out.getD (out.length - 1) zc).f1) = a
      · simp only [if_pos c3]
        refine hj2 _ ?_
        unfold fits
        rw [decide_eq_true hn, decide_eq_true c3, Bool.true_and, Bool.true_and]
        by_cases c4 : wrap64 ((out.getD (out.length - 1) zc).f2 + (out.getD (out.length - 1) zc).f3) = b
        · rw [decide_eq_true c4, beq_iff_eq.mpr c4]
        · rw [decide_eq_false c4, beq_eq_false_iff_ne.mpr c4]
      · simp only [if_neg c3]
        refine hj2 false ?_
        unfold fits
        rw [decide_eq_false c3, Bool.false_and, Bool.and_false]
    · simp only [if_neg (show ¬ (out.length : Int) > 0 by omega)]
      refine hj2 false ?_
      unfold fits
      rw [decide_eq_false hn, Bool.false_and]
theorem ch_p0 : ∀ (d i : Nat) (out : List Ch), i + d = l.length → out.length + tot (l.drop i) ≤ 8589934592 → Ev (fun k => hunks_Changes.l0 k out l (l.length : Int) (i : Int)) (chh (l.drop i) out, 0) := by
  intro d
  induction d with
  | zero =>
    intro i out hi ho
    apply Ev_unfold
    rw [List.drop_eq_nil_of_le (show l.length ≤ i by omega), chh]
    simp only [hunks_Changes.l0, if_neg (show ¬ (i : Int) < (l.length : Int) by omega)]
    exact Ev.now _
  | succ d ih =>
    intro i out hi ho
    apply Ev_unfold
    have ht := tot_mem l i (by omega)
    rw [dropHk l i (by omega), chh]
    have hst : hunks_stands.f (l.getD i zh).f0 (l.getD i zh).f1 (l.getD i zh).f2 (l.getD i zh).f3 (l.getD i zh).f4 = some (pa (l.getD i zh), pb (l.getD i zh)) := rfl
    simp only [hunks_Changes.l0, if_pos (show (i : Int) < (l.length : Int) by omega), if_pos (show (0 : Int) ≤ (i : Int) by omega), rdHk_nat, hst, bsome]
    have := ch_p1 l hll hl i (by omega) (fun o ho2 => ih (i + 1) o (by omega) ho2) (l.getD i zh).f4.length 0 out (pa (l.getD i zh)) (pb (l.getD i zh)) (by omega) (by omega)
    rw [List.drop_zero] at this
    exact this
/-- the script, or what is wrong -/
def chs (l : List Hk) : List Ch × Int := if ordo l = 0 then (chh l [], 0) else ([], ordo l)
theorem changes_p : Ev (fun k => hunks_Changes.f k l) (chs l) := by
  unfold hunks_Changes.f chs
  refine Ev.bind (order_p l hll hl) ?_
  by_cases h : ordo l = 0
  · simp only [if_pos h]
    have := ch_p0 l hll hl l.length 0 [] (by omega) (by rw [List.drop_zero, List.length_nil]; have := (ordo_0 h).2; omega)
    rw [List.drop_zero] at this
    exact this
  · simp only [if_neg h]; exact Ev.now _
end
end H12
end Go.Proofs.Ytmnajajnbmlihaa.Q
