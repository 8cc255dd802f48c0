/- plain: which edit scripts are right, and their groups: the program's answer and the reference's -/
import Derived.Test.YtchhelmilbheoaaDoorZMQa
import Derived.Test.YtchhelmilbheoaaDoorZMXx40
import Derived.Test.YtchhelmilbheoaaDoorZMXx41
import Derived.Test.YtchhelmilbheoaaDoorZMXx74
import Derived.Test.YtchhelmilbheoaaDoorZMXx75
namespace Go.Proofs.YtchhelmilbheoaaDoor.Q
set_option linter.unusedVariables false
set_option linter.unusedSimpArgs false
open Go.RowKit Go.Proofs.YtchhelmilbheoaaDoor.X Go.Proofs.YtchhelmilbheoaaDoorW.PrintWords Go.Proofs.YtchhelmilbheoaaDoorW.PrintLast Go.Proofs.YtchhelmilbheoaaDoorW.PrintMore
namespace H11
abbrev Ch := S72
abbrev zc : Ch := z72
theorem rdCh_nat (l : List Ch) (i : Nat) : rd_T72 l (i : Int) = l.getD i zc := by
  have h : ∀ j : Int, j = (i : Int) → rd_T72 l j = l.getD i zc := by
    intro j h
    subst h
    rfl
  exact h _ rfl
theorem dropC (l : List Ch) (i : Nat) (h : i < l.length) : l.drop i = l.getD i zc :: l.drop (i + 1) := by
  rw [List.drop_eq_getElem_cons h]; simp [List.getD_eq_getElem?_getD, h]
def Small (v : Int) : Prop := 0 ≤ v ∧ v ≤ 2147483647
instance (v : Int) : Decidable (Small v) := by unfold Small; exact inferInstance
theorem count_dec (v : Int) : edits_count.f v = some (decide (Small v)) := by
  unfold edits_count.f
  by_cases h : v ≥ 0
  · rw [if_pos h]
    by_cases h2 : v ≤ 2147483647
    · rw [decide_eq_true h2, decide_eq_true (show Small v from ⟨h, h2⟩)]
    · rw [decide_eq_false h2, decide_eq_false (show ¬ Small v from fun e => h2 e.2)]
  · rw [if_neg h, decide_eq_false (show ¬ Small v from fun e => h e.1)]
/-- one change of a right script, behind a and b -/
def one (fst : Bool) (a b : Int) (c : Ch) : Prop := Small c.f0 ∧ Small c.f1 ∧ Small c.f2 ∧ Small c.f3 ∧ ¬ (c.f1 = 0 ∧ c.f3 = 0) ∧ a ≤ c.f0 ∧ (fst = false → c.f0 ≠ a) ∧ c.f0 - a = c.f2 - b
instance (fst : Bool) (a b : Int) (c : Ch) : Decidable (one fst a b c) := by unfold one; exact inferInstance
def chk (n m : Int) : List Ch → Bool → Int → Int → Bool
  | [], _, a, b => decide (a ≤ n ∧ b ≤ m ∧ n - a = m - b)
  | c :: l, fst, a, b => decide (one fst a b c) && chk n m l false (c.f0 + c.f1) (c.f2 + c.f3)
def cko (n m : Int) (l : List Ch) (fst : Bool) (a b : Int) : Int := if chk n m l fst a b = true then 0 else 50
theorem cko_no {n m : Int} {c : Ch} {l : List Ch} {fst : Bool} {a b : Int} (h : ¬ one fst a b c) : cko n m (c :: l) fst a b = 50 := by
  unfold cko; rw [chk, decide_eq_false h, Bool.false_and, if_neg Bool.false_ne_true]
theorem cko_yes {n m : Int} {c : Ch} {l : List Ch} {fst : Bool} {a b : Int} (h : one fst a b c) : cko n m (c :: l) fst a b = cko n m l false (c.f0 + c.f1) (c.f2 + c.f3) := by
  unfold cko; rw [chk, decide_eq_true h, Bool.true_and]
theorem cko_end (n m : Int) (fst : Bool) (a b : Int) : cko n m [] fst a b = if a ≤ n ∧ b ≤ m ∧ n - a = m - b then 0 else 50 := by
  unfold cko; rw [chk]
  by_cases h : a ≤ n ∧ b ≤ m ∧ n - a = m - b
  · rw [decide_eq_true h, if_pos rfl, if_pos h]
  · rw [decide_eq_false h, if_neg Bool.false_ne_true, if_neg h]
section
variable (n m : Int) (hn : 0 ≤ n ∧ n ≤ 1000000000000000) (hm : 0 ≤ m ∧ m ≤ 1000000000000000) (l : List Ch) (hl : l.length ≤ 1000000000000000)
include hn hm hl
theorem check_prog : ∀ (d i : Nat) (a b : Int), i + d = l.length → 0 ≤ a → a ≤ 5000000000 → 0 ≤ b → b ≤ 5000000000 → Ev (fun k => edits_Check.l0 k n m a b l (l.length : Int) (i : Int)) (cko n m (l.drop i) (decide (i = 0)) a b) := by
  intro d
  induction d with
  | zero =>
    intro i a b hi ha ha2 hb hb2
    apply Ev_unfold
    rw [List.drop_eq_nil_of_le (by omega), cko_end]
    simp only [edits_Check.l0, if_neg (show ¬ (i : Int) < (l.length : Int) by omega), w64 (n - a) (by omega), w64 (m - b) (by omega)]
    by_cases h1 : a > n
    · rw [if_neg (show ¬ (a ≤ n ∧ b ≤ m ∧ n - a = m - b) by omega)]; simp only [if_pos h1]; exact Ev.now _
    by_cases h2 : b > m
    · rw [if_neg (show ¬ (a ≤ n ∧ b ≤ m ∧ n - a = m - b) by omega)]; simp only [if_neg h1, if_pos h2]; exact Ev.now _
    by_cases h3 : n - a = m - b
    · rw [if_pos (show a ≤ n ∧ b ≤ m ∧ n - a = m - b by omega)]; simp only [if_neg h1, if_neg h2, if_pos h3]; exact Ev.now _
    · rw [if_neg (show ¬ (a ≤ n ∧ b ≤ m ∧ n - a = m - b) by omega)]; simp only [if_neg h1, if_neg h2, if_neg h3]; exact Ev.now _
  | succ d ih =>
    intro i a b hi ha ha2 hb hb2
    apply Ev_unfold
    rw [dropC l i (by omega)]
    obtain ⟨c, hc⟩ : ∃ c, l.getD i zc = c := ⟨_, rfl⟩
    have hbad : Ev (fun k => edits_Check.j1 k n m a b (i : Int) l (l.length : Int) (i : Int) true c.f0 c.f1 c.f2 c.f3) 50 := by
      apply Ev_unfold; simp only [edits_Check.j1, if_true]; exact Ev.now _
    rw [hc]
    simp only [edits_Check.l0, if_pos (show (i : Int) < (l.length : Int) by omega), if_pos (show (0 : Int) ≤ (i : Int) by omega), rdCh_nat, hc, count_dec, bsome]
    by_cases s0 : Small c.f0
    case neg => rw [cko_no (fun e => s0 e.1)]; simp only [decide_eq_false s0, Bool.false_eq_true, if_false]; exact hbad
    by_cases s1 : Small c.f1
    case neg => rw [cko_no (fun e => s1 e.2.1)]; simp only [decide_eq_true s0, decide_eq_false s1, Bool.false_eq_true, if_false, if_true]; exact hbad
    by_cases s2 : Small c.f2
    case neg => rw [cko_no (fun e => s2 e.2.2.1)]; simp only [decide_eq_true s0, decide_eq_true s1, decide_eq_false s2, Bool.false_eq_true, if_false, if_true]; exact hbad
    by_cases s3 : Small c.f3
    case neg => rw [cko_no (fun e => s3 e.2.2.2.1)]; simp only [decide_eq_true s0, decide_eq_true s1, decide_eq_true s2, decide_eq_false s3, Bool.false_eq_true, if_false, if_true]; exact hbad
    simp only [decide_eq_true s0, decide_eq_true s1, decide_eq_true s2, decide_eq_true s3, if_true]
    have q0 := s0; have q1 := s1; have q2 := s2; have q3 := s3
    unfold Small at q0 q1 q2 q3
    have hj : ∀ bb : Bool, (bb = true ↔ c.f1 = 0 ∧ c.f3 = 0) → Ev (fun k => edits_Check.j1 k n m a b (i : Int) l (l.length : Int) (i : Int) bb c.f0 c.f1 c.f2 c.f3) (cko n m (c :: l.drop (i + 1)) (decide (i = 0)) a b) := by
      intro bb hbb
      cases bb with
      | true => rw [cko_no (fun e => e.2.2.2.2.1 (hbb.1 rfl))]; exact hbad
      | false =>
        have s4 : ¬ (c.f1 = 0 ∧ c.f3 = 0) := fun e => Bool.noConfusion (hbb.2 e)
        apply Ev_unfold
        have w1 : wrap64 (c.f0 - a) = c.f0 - a := w64 _ (by omega)
        have w2 : wrap64 (c.f2 - b) = c.f2 - b := w64 _ (by omega)
        have w3 : wrap64 (c.f0 + c.f1) = c.f0 + c.f1 := w64 _ (by omega)
        have w4 : wrap64 (c.f2 + c.f3) = c.f2 + c.f3 := w64 _ (by omega)
        have o1 : i < 4611686018427387904 := by omega
        simp only [edits_Check.j1, Bool.false_eq_true, if_false, w1, w2, w3, w4, wadd i o1]
        have hgo := ih (i + 1) (c.f0 + c.f1) (c.f2 + c.f3) (by omega) (by omega) (by omega) (by omega) (by omega)
        rw [decide_eq_false (show ¬ i + 1 = 0 by omega)] at hgo
        by_cases h1 : c.f0 - a < 0
        · rw [cko_no (fun e => by have := e.2.2.2.2.2.1; omega)]; simp only [if_pos h1]; exact Ev.now _
        simp only [if_neg h1]
        by_cases h2 : (i : Int) > 0
        · simp only [if_pos h2]
          by_cases h3 : c.f0 - a = 0
          · rw [cko_no (fun e => by have := e.2.2.2.2.2.2.1 (decide_eq_false (by omega)); omega)]; simp only [if_pos h3]; exact Ev.now _
          simp only [if_neg h3]
          by_cases h4 : c.f0 - a = c.f2 - b
          · rw [cko_yes (show one (decide (i = 0)) a b c from ⟨s0, s1, s2, s3, s4, by omega, fun _ => by omega, h4⟩)]; simp only [if_pos h4]; exact hgo
          · rw [cko_no (fun e => h4 e.2.2.2.2.2.2.2)]; simp only [if_neg h4]; exact Ev.now _
        · simp only [if_neg h2]
          by_cases h4 : c.f0 - a = c.f2 - b
          · rw [cko_yes (show one (decide (i = 0)) a b c from ⟨s0, s1, s2, s3, s4, by omega, (fun e => by rw [decide_eq_true (show i = 0 by omega)] at e; cases e), h4⟩)]; simp only [if_pos h4]; exact hgo
          · rw [cko_no (fun e => h4 e.2.2.2.2.2.2.2)]; simp only [if_neg h4]; exact Ev.now _
    by_cases h5 : c.f1 = 0
    · simp only [if_pos h5]
      refine hj _ ?_
      rw [beq_iff_eq]
      exact ⟨fun e => ⟨h5, e⟩, fun e => e.2⟩
    · simp only [if_neg h5]
      exact hj false ⟨(fun e => by cases e), fun e => absurd e.1 h5⟩
theorem check_p : Ev (fun k => edits_Check.f k l n m) (cko n m l true 0 0) := by
  unfold edits_Check.f
  have := check_prog n m hn hm l hl l.length 0 0 0 (by omega) (by omega) (by omega) (by omega) (by omega)
  simpa using this
end
/-- changes in order, within both texts -/
def Chn (n m : Int) : Int → Int → List Ch → Prop
  | _, _, [] => True
  | a, b, c :: l => Small c.f0 ∧ Small c.f1 ∧ Small c.f2 ∧ Small c.f3 ∧ a ≤ c.f0 ∧ b ≤ c.f2 ∧ c.f0 + c.f1 ≤ n ∧ c.f2 + c.f3 ≤ m ∧ Chn n m (c.f0 + c.f1) (c.f2 + c.f3) l
theorem chk_end {n m : Int} : ∀ (l : List Ch) (fst : Bool) (a b : Int), chk n m l fst a b = true → a ≤ n ∧ b ≤ m
  | [], fst, a, b, h => by rw [chk] at h; have := of_decide_eq_true h; exact ⟨this.1, this.2.1⟩
  | c :: l, fst, a, b, h => by
    rw [chk, Bool.and_eq_true] at h
    have h1 := of_decide_eq_true h.1
    have h2 := chk_end l false _ _ h.2
    obtain ⟨s0, s1, s2, s3, _, q1, _, q2⟩ := h1
    unfold Small at s0 s1 s2 s3
    omega
/-- the groups: what is laid so far of the one that stands open, its last change, and what comes -/
def gs (ctx : Int) : List Ch → Ch → List Ch → List (List Ch)
  | cur, _, [] => [cur]
  | cur, p, c :: l => if c.f0 - (p.f0 + p.f1) > 2 * ctx then cur :: gs ctx [c] c l else gs ctx (cur ++ [c]) c l
def grp (ctx : Int) : List Ch → List (List Ch)
  | [] => []
  | c :: l => gs ctx [c] c l
end H11
end Go.Proofs.YtchhelmilbheoaaDoor.Q
