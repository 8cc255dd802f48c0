/- plain: whether hunks were laid already; the law's function is true -/
import Derived.Test.YtnbeppnpfdempaaZATb
import Derived.Test.YtnbeppnpfdempaaZAXx24
import Derived.Test.YtnbeppnpfdempaaZAXx64
import Derived.Test.YtnbeppnpfdempaaZAXx70
import Derived.Test.YtnbeppnpfdempaaZAXx71
import Derived.Test.YtnbeppnpfdempaaZAXx72
import Derived.Test.YtnbeppnpfdempaaZAXx74
import Derived.Test.YtnbeppnpfdempaaZAXx75
namespace Go.Proofs.Ytnbeppnpfdempaa.Q
set_option linter.unusedVariables false
set_option linter.unusedSimpArgs false
open Go.RowKit Go.Proofs.Ytnbeppnpfdempaa.X Go.Proofs.YtnbeppnpfdempaaW.PrintWords Go.Proofs.YtnbeppnpfdempaaW.PrintLast Go.Proofs.YtnbeppnpfdempaaW.PrintMore
namespace H19
open H12
theorem hi_mem (N : Nat) : ∀ (l ms ad : List Mk), (∀ m ∈ l, m.f1.size ≤ N) → (∀ m ∈ ms, m.f1.size ≤ N) → (∀ m ∈ ad, m.f1.size ≤ N) → ∀ m ∈ (hi_go l ms ad).1 ++ (hi_go l ms ad).2, m.f1.size ≤ N
  | [], ms, ad, _, h2, h3, m, hm => by
    rw [hi_go] at hm
    exact (List.mem_append.1 hm).elim (h2 m) (h3 m)
  | x :: l, ms, ad, h1, h2, h3, m, hm => by
    have hx := h1 x (List.mem_cons_self ..)
    have hl : ∀ m ∈ l, m.f1.size ≤ N := fun m h => h1 m (List.mem_cons_of_mem _ h)
    rw [hi_go] at hm
    by_cases c1 : x.f0 = 43
    · rw [if_pos c1] at hm
      exact hi_mem N l _ _ hl (fun y hy => (List.mem_append.1 hy).elim (h2 y) (fun h => by rw [List.mem_singleton] at h; subst h; exact hx)) h3 m hm
    rw [if_neg c1] at hm
    by_cases c2 : x.f0 = 45
    · rw [if_pos c2] at hm
      exact hi_mem N l _ _ hl h2 (fun y hy => (List.mem_append.1 hy).elim (h3 y) (fun h => by rw [List.mem_singleton] at h; subst h; exact hx)) m hm
    rw [if_neg c2] at hm
    exact hi_mem N l _ _ hl (fun y hy => (List.mem_append.1 hy).elim (fun h => (List.mem_append.1 h).elim (h2 y) (h3 y)) (fun h => by rw [List.mem_singleton] at h; subst h; exact hx)) (fun y hy => (by cases hy)) m hm
theorem inv_f4 (h : Hk) : (Ap.inv h).f4.length = h.f4.length := by
  have := hi_go_len h.f4 [] []
  simp only [List.length_nil, Nat.zero_add] at this
  show ((hi_go h.f4 [] []).1 ++ (hi_go h.f4 [] []).2).length = _
  rw [List.length_append, this]
def appf (l : List Hk) (a : List ByteArray) : Bool := decide ((l.length : Int) > 0) && ((strf l a).2 != 0 && (strf (l.map Ap.inv) a).2 == 0)
section
variable (l : List Hk) (hll : l.length ≤ 1048576) (hl : ∀ h ∈ l, h.f4.length ≤ 1048576) (hs : ∀ h ∈ l, ∀ m ∈ h.f4, m.f1.size ≤ 1048576)
variable (a : List ByteArray) (hal : a.length ≤ 1048576) (has : ∀ s ∈ a, s.size ≤ 1048576)
include hll hl hs in
theorem inv_all : (l.map Ap.inv).length ≤ 1048576 ∧ (∀ h ∈ l.map Ap.inv, h.f4.length ≤ 1048576) ∧ ∀ h ∈ l.map Ap.inv, ∀ m ∈ h.f4, m.f1.size ≤ 1048576 := by
  refine ⟨by rw [List.length_map]; exact hll, fun h hh => ?_, fun h hh => ?_⟩
  · obtain ⟨x, hx, rfl⟩ := List.mem_map.1 hh
    rw [inv_f4]; exact hl x hx
  · obtain ⟨x, hx, rfl⟩ := List.mem_map.1 hh
    exact hi_mem 1048576 x.f4 [] [] (hs x hx) (fun y hy => (by cases hy)) (fun y hy => (by cases hy))
include hll hl hal in
theorem spoilt : ∀ (d i : Nat) (x : List ByteArray), i + d = x.length → x.length ≤ 1000000000000000 → Ev (fun k => redlinelaw19_ApplyStricts.l0 k l a l a x (i : Int)) true := by
  intro d
  induction d with
  | zero =>
    intro i x hi hx
    apply Ev_unfold
    simp only [redlinelaw19_ApplyStricts.l0, if_neg (show ¬ (i : Int) < (x.length : Int) by omega)]
    refine Ev.bind (same_hs l (by omega) (fun h hh => Nat.le_trans (hl h hh) (by omega))) ?_
    simp only [if_true]
    refine Ev.bind (eq_r a a (by omega)) ?_
    rw [decide_eq_true rfl]
    exact Ev.now _
  | succ d ih =>
    intro i x hi hx
    apply Ev_unfold
    have o2 : i < 4611686018427387904 := by omega
    simp only [redlinelaw19_ApplyStricts.l0, if_pos (show (i : Int) < (x.length : Int) by omega), if_pos (show (0 : Int) ≤ (i : Int) by omega), wadd i o2]
    exact ih (i + 1) _ (by rw [List.length_set]; omega) (by rw [List.length_set]; exact hx)
include hll hl hs hal has
theorem str_pp : Ev (fun k => apply_Strict.f k l a) (strf l a) :=
  strict_p l (by omega) (fun h hh => Nat.le_trans (hl h hh) (by omega)) (fun h hh m hm => Nat.le_trans (hs h hh m hm) (by omega)) a (by omega) (fun s h => Nat.le_trans (has s h) (by omega))
theorem str_rr : Ev (fun k => redlineref19_Strict.f k l a) (strf l a) :=
  strict_r l (by omega) (fun h hh => Nat.le_trans (hl h hh) (by omega)) (fun h hh m hm => Nat.le_trans (hs h hh m hm) (by omega)) a (by omega) (fun s h => Nat.le_trans (has s h) (by omega))
theorem applied_p : Ev (fun k => apply_Applied.f k l a) (appf l a) := by
  obtain ⟨i1, i2, i3⟩ := inv_all l hll hl hs
  have hg : (decide (l.length * 56 ≤ 140737488355328) && l.all (fun h => decide (h.f4.length ≤ 5864062014804))) = true := by
    rw [Bool.and_eq_true]
    exact ⟨decide_eq_true (by omega), List.all_eq_true.2 (fun h hh => decide_eq_true (Nat.le_trans (hl h hh) (by omega)))⟩
  unfold apply_Applied.f appf
  simp only [if_pos hg]
  refine Ev.bind (str_pp l hll hl hs a hal has) ?_
  refine Ev.bind (str_pp _ i1 i2 i3 a hal has) ?_
  exact Ev.now _
theorem applied_r0 (t : Int) : ∀ (d i : Nat) (bk : List Hk), i + d = l.length → bk = (l.take i).map Ap.inv → Ev (fun k => redlineref19_Applied.l0 k l a t bk (i : Int)) (decide ((l.length : Int) > 0) && (t != 0 && (strf (l.map Ap.inv) a).2 == 0)) := by
  obtain ⟨i1, i2, i3⟩ := inv_all l hll hl hs
  intro d
  induction d with
  | zero =>
    intro i bk hi hb
    apply Ev_unfold
    have hb2 : bk = l.map Ap.inv := by rw [hb, List.take_of_length_le (by omega)]
    subst hb2
    simp only [redlineref19_Applied.l0, if_neg (show ¬ (i : Int) < (l.length : Int) by omega)]
    refine Ev.bind (str_rr _ i1 i2 i3 a hal has) ?_
    by_cases h1 : (l.length : Int) > 0
    · simp only [if_pos h1, decide_eq_true h1, Bool.true_and]
      by_cases h2 : t = 0
      · simp only [if_pos h2, bne_eq_false_iff_eq.mpr h2, Bool.false_and]; exact Ev.now _
      · simp only [if_neg h2, bne_iff_ne.mpr h2, Bool.true_and]; exact Ev.now _
    · simp only [if_neg h1, decide_eq_false h1, Bool.false_and]; exact Ev.now _
  | succ d ih =>
    intro i bk hi hb
    apply Ev_unfold
    have o2 : i < 4611686018427387904 := by omega
    have hbl : bk.length < 2513169434916 := by rw [hb, List.length_map, List.length_take]; omega
    simp only [redlineref19_Applied.l0, if_pos (show (i : Int) < (l.length : Int) by omega), if_pos (show (0 : Int) ≤ (i : Int) by omega), rdHk_nat, wadd i o2]
    refine Ev.bind (inv_r (l.getD i zh).f4 (Nat.le_trans (hl _ (getHk_mem l i (by omega))) (by omega)) (l.getD i zh).f0 (l.getD i zh).f1 (l.getD i zh).f2 (l.getD i zh).f3) ?_
    simp only [if_pos hbl]
    refine ih (i + 1) _ (by omega) ?_
    have e : l.take (i + 1) = l.take i ++ [l.getD i zh] := by
      rw [List.take_add_one, List.getElem?_eq_getElem (show i < l.length by omega), List.getD_eq_getElem?_getD, List.getElem?_eq_getElem (show i < l.length by omega)]
      rfl
    rw [e, List.map_append, ← hb]
    rfl
theorem applied_r : Ev (fun k => redlineref19_Applied.f k l a) (appf l a) := by
  unfold redlineref19_Applied.f appf
  refine Ev.bind (str_rr l hll hl hs a hal has) ?_
  exact applied_r0 l hll hl hs a hal has (strf l a).2 l.length 0 [] (by omega) rfl
/-- the law's function is true -/
theorem as_ev : Ev (fun k => redlinelaw19_ApplyStricts.f k l a) true := by
  have hlen := strf_len l a hl hal hll
  unfold redlinelaw19_ApplyStricts.f
  refine Ev.bind (copy_e l (by omega) (fun h hh => Nat.le_trans (hl h hh) (by omega))) ?_
  simp only [bsome, List.length_nil, Nat.zero_add, if_pos (show a.length < 8796093022208 by omega), List.nil_append]
  refine Ev.bind (str_pp l hll hl hs a hal has) ?_
  refine Ev.bind (str_rr l hll hl hs a hal has) ?_
  simp only [if_true]
  refine Ev.bind (eq_r (strf l a).1 (strf l a).1 hlen) ?_
  rw [decide_eq_true rfl]
  simp only [if_true]
  refine Ev.bind (applied_p l hll hl hs a hal has) ?_
  refine Ev.bind (applied_r l hll hl hs a hal has) ?_
  rw [bne_self_eq_false]
  apply Ev_unfold
  simp only [redlinelaw19_ApplyStricts.j0, Bool.false_eq_true, if_false]
  exact spoilt l hll hl a hal (strf l a).1.length 0 (strf l a).1 (by omega) hlen
end
end H19
end Go.Proofs.Ytnbeppnpfdempaa.Q
