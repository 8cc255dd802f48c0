/- plain, for the seats without hunks.Changes: how many lines right hunks have; a copied row; equal rows; the hunk that goes back -/
import Derived.Test.YtnbeppnpfdempaaZAVf
import Derived.Test.YtnbeppnpfdempaaZAXx24
import Derived.Test.YtnbeppnpfdempaaZAXx64
import Derived.Test.YtnbeppnpfdempaaZAXx69
import Derived.Test.YtnbeppnpfdempaaZAXx71
import Derived.Test.YtnbeppnpfdempaaZAXx73
import Derived.Test.YtnbeppnpfdempaaZAXx74
namespace Go.Proofs.Ytnbeppnpfdempaa.Q
set_option linter.unusedVariables false
set_option linter.unusedSimpArgs false
open Go.RowKit Go.Proofs.Ytnbeppnpfdempaa.X Go.Proofs.YtnbeppnpfdempaaW.PrintWords Go.Proofs.YtnbeppnpfdempaaW.PrintLast Go.Proofs.YtnbeppnpfdempaaW.PrintMore
namespace H12
def tot : List Hk → Nat
  | [] => 0
  | h :: l => h.f4.length + tot l
/-! a hunk that is right has no more lines than it says -/
theorem RF_len : ∀ (ms : List Mk), RF ms = true → ms.length ≤ (pk 45 ms).length + (pk 43 ms).length
  | [], _ => by simp
  | m :: l, h => by
    have h2 : ((lk m.f1 && (io m || inw m)) && (fd m.f1 || !((io m && l.any io) || (inw m && l.any inw))) && RF l) = true := h
    simp only [Bool.and_eq_true] at h2
    have ih := RF_len l h2.2
    have h3 := h2.1.1.2
    unfold io inw at h3
    simp only [Bool.or_eq_true, beq_iff_eq] at h3
    rw [pk_cons, pk_cons, List.length_cons]
    by_cases a1 : m.f0 = 32 ∨ m.f0 = 45
    · rw [if_pos a1, List.length_cons]
      split
      · rw [List.length_cons]; omega
      · omega
    · have a2 : m.f0 = 32 ∨ m.f0 = 43 := h3.elim (fun e => absurd e a1) id
      rw [if_neg a1, if_pos a2, List.length_cons]; omega
theorem ckh_ok {h : Hk} (e : ckh h = 0) : Sm h.f0 ∧ Sm h.f1 ∧ Sm h.f2 ∧ Sm h.f3 ∧ 0 ≤ pa h ∧ pa h ≤ h.f0 ∧ 0 ≤ pb h ∧ pb h ≤ h.f2 ∧ (h.f4.length : Int) ≤ h.f1 + h.f3 := by
  have s := ck_small e
  unfold ckh ck at e
  by_cases hb : badr h.f0 h.f1 h.f2 h.f3
  · rw [if_pos hb] at e; omega
  rw [if_neg hb] at e
  by_cases hr : RF h.f4 = true
  case neg => rw [if_neg hr] at e; omega
  rw [if_pos hr] at e
  by_cases hc : h.f1 = ((pk 45 h.f4).length : Int) ∧ h.f3 = ((pk 43 h.f4).length : Int)
  case neg => rw [if_neg hc] at e; omega
  have hl := RF_len h.f4 hr
  have hb1 : ¬ (h.f0 = 0 ∧ h.f1 > 0) := fun q => hb (.inr (.inl q))
  have hb2 : ¬ (h.f2 = 0 ∧ h.f3 > 0) := fun q => hb (.inr (.inr q))
  obtain ⟨s0, s1, s2, s3⟩ := s
  have q0 := s0; have q1 := s1; have q2 := s2; have q3 := s3
  unfold Sm at q0 q1 q2 q3
  have m1 : mn 1 h.f1 = if h.f1 > 0 then 1 else 0 := by unfold mn; split <;> split <;> omega
  have m2 : mn 1 h.f3 = if h.f3 > 0 then 1 else 0 := by unfold mn; split <;> split <;> omega
  have p1 : 0 ≤ pa h ∧ pa h ≤ h.f0 := by
    unfold pa
    rw [m1]
    by_cases z : h.f1 > 0
    · rw [if_pos z, w64 _ (by omega)]; omega
    · rw [if_neg z, w64 _ (by omega)]; omega
  have p2 : 0 ≤ pb h ∧ pb h ≤ h.f2 := by
    unfold pb
    rw [m2]
    by_cases z : h.f3 > 0
    · rw [if_pos z, w64 _ (by omega)]; omega
    · rw [if_neg z, w64 _ (by omega)]; omega
  exact ⟨s0, s1, s2, s3, p1.1, p1.2, p2.1, p2.2, by omega⟩
theorem tot_le : ∀ (l : List Hk) (x y : Int), (∀ h ∈ l, ckh h = 0) → 0 ≤ x → x ≤ 4294967296 → 0 ≤ y → y ≤ 4294967296 → ords x y l = 0 → x + y + (tot l : Int) ≤ 8589934592
  | [], x, y, _, x1, x2, y1, y2, _ => by rw [tot]; omega
  | h :: l, x, y, hc, x1, x2, y1, y2, ho => by
    obtain ⟨s0, s1, s2, s3, a1, a2, b1, b2, hl⟩ := ckh_ok (hc h (List.mem_cons_self ..))
    unfold Sm at s0 s1 s2 s3
    rw [ords] at ho
    by_cases c1 : pa h < x
    · rw [if_pos c1] at ho; omega
    rw [if_neg c1] at ho
    by_cases c2 : wrap64 (pa h - x) = wrap64 (pb h - y)
    case neg => rw [if_neg c2] at ho; omega
    rw [if_pos c2] at ho
    rw [w64 (pa h + h.f1) (by omega), w64 (pb h + h.f3) (by omega)] at ho
    have c3 : pa h - x = pb h - y := by rw [w64 (pa h - x) (by omega), w64 (pb h - y) (by omega)] at c2; exact c2
    have := tot_le l _ _ (fun z hz => hc z (List.mem_cons_of_mem _ hz)) (by omega) (by omega) (by omega) (by omega) ho
    rw [tot]
    omega
theorem ordo_0 {l : List Hk} (h : ordo l = 0) : cks l = 0 ∧ tot l ≤ 8589934592 := by
  unfold ordo at h
  by_cases e : cks l = 0
  · rw [if_pos e] at h
    have := tot_le l 0 0 (cks_all e) (by omega) (by omega) (by omega) (by omega) h
    exact ⟨e, by omega⟩
  · rw [if_neg e] at h; exact absurd h e
theorem tot_mem : ∀ (l : List Hk) (i : Nat), i < l.length → tot (l.drop i) = (l.getD i zh).f4.length + tot (l.drop (i + 1)) := by
  intro l i h
  rw [dropHk l i h, tot]
/-! a copy is the row itself -/
theorem copy_e (l : List Hk) (hll : l.length ≤ 2513169434916) (hl : ∀ h ∈ l, h.f4.length ≤ 5864062014804) : Ev (fun k => redlineref11_Copy.f k l) l := by
  have go : ∀ (d i : Nat) (out : List Hk), i + d = l.length → out.length = i → Ev (fun k => redlineref11_Copy.l0 k l out (i : Int)) (out ++ l.drop i) := by
    intro d
    induction d with
    | zero =>
      intro i out hi ho
      apply Ev_unfold
      rw [List.drop_eq_nil_of_le (show l.length ≤ i by omega), List.append_nil]
      simp only [redlineref11_Copy.l0, if_neg (show ¬ (i : Int) < (l.length : Int) by omega)]
      exact Ev.now _
    | succ d ih =>
      intro i out hi ho
      apply Ev_unfold
      have o2 : i < 4611686018427387904 := by omega
      have hm := hl _ (getHk_mem l i (by omega))
      have hgo := ih (i + 1) (out ++ [l.getD i zh]) (by omega) (by rw [List.length_append, List.length_singleton]; omega)
      rw [List.append_assoc, List.singleton_append, ← dropHk l i (by omega)] at hgo
      simp only [redlineref11_Copy.l0, if_pos (show (i : Int) < (l.length : Int) by omega), if_pos (show (0 : Int) ≤ (i : Int) by omega), rdHk_nat, bsome, List.length_nil, Nat.zero_add, if_pos (show (l.getD i zh).f4.length < 5864062014805 by omega), if_pos (show out.length < 2513169434916 by omega), List.nil_append, wadd i o2]
      exact hgo
  unfold redlineref11_Copy.f
  have := go l.length 0 [] (by omega) rfl
  rw [List.drop_zero, List.nil_append] at this
  exact this
/-! equal rows are told equal -/
theorem same_m (x0 x1 x2 x3 y0 y1 y2 y3 : Int) (ms : List Mk) (hl : ms.length ≤ 1000000000000000) : ∀ (d i : Nat), i + d = ms.length → Ev (fun k => redlineref11_Same.l0 k (i : Int) x0 x1 x2 x3 ms y0 y1 y2 y3 ms) true := by
  intro d
  induction d with
  | zero =>
    intro i hi
    apply Ev_unfold
    simp only [redlineref11_Same.l0, if_neg (show ¬ (i : Int) < (ms.length : Int) by omega)]
    exact Ev.now _
  | succ d ih =>
    intro i hi
    apply Ev_unfold
    have o2 : i < 4611686018427387904 := by omega
    simp only [redlineref11_Same.l0, if_pos (show (i : Int) < (ms.length : Int) by omega), if_pos (show (0 : Int) ≤ (i : Int) by omega), beq_self_eq_true, Bool.not_true, Bool.or_false, Bool.false_eq_true, if_false, wadd i o2]
    exact ih (i + 1) (by omega)
theorem same_h (x0 x1 x2 x3 : Int) (ms : List Mk) (hl : ms.length ≤ 1000000000000000) : Ev (fun k => redlineref11_Same.f k x0 x1 x2 x3 ms x0 x1 x2 x3 ms) true := by
  unfold redlineref11_Same.f
  simp only [if_true, bne_self_eq_false]
  apply Ev_unfold
  simp only [redlineref11_Same.j0, Bool.false_eq_true, if_false]
  exact same_m _ _ _ _ _ _ _ _ ms hl ms.length 0 (by omega)
theorem same_hs (x : List Hk) (hl : x.length ≤ 1000000000000000) (hx : ∀ h ∈ x, h.f4.length ≤ 1000000000000000) : Ev (fun k => redlineref11_SameHunks.f k x x) true := by
  have go : ∀ (d i : Nat), i + d = x.length → Ev (fun k => redlineref11_SameHunks.l0 k x x (i : Int)) true := by
    intro d
    induction d with
    | zero =>
      intro i hi
      apply Ev_unfold
      simp only [redlineref11_SameHunks.l0, if_neg (show ¬ (i : Int) < (x.length : Int) by omega)]
      exact Ev.now _
    | succ d ih =>
      intro i hi
      apply Ev_unfold
      have o2 : i < 4611686018427387904 := by omega
      have hm := hx _ (getHk_mem x i (by omega))
      simp only [redlineref11_SameHunks.l0, if_pos (show (i : Int) < (x.length : Int) by omega), if_pos (show (0 : Int) ≤ (i : Int) by omega), rdHk_nat, wadd i o2]
      refine Ev.bind (same_h _ _ _ _ _ hm) ?_
      simp only [if_true]
      exact ih (i + 1) (by omega)
  unfold redlineref11_SameHunks.f
  simp only [if_true]
  exact go x.length 0 (by omega)
theorem inv_r (l : List Mk) (hl : l.length ≤ 5864062014804) (a0 a1 a2 a3 : Int) : Ev (fun k => redlineref11_Invert.f k a0 a1 a2 a3 l) (a2, a3, a0, a1, (hi_go l [] []).1 ++ (hi_go l [] []).2) := by
  have go : ∀ (d i : Nat) (ms ad : List Mk), i + d = l.length → ms.length + ad.length = i → Ev (fun k => redlineref11_Invert.l0 k ad (i : Int) a0 a1 a2 a3 l a2 a3 a0 a1 ms) (a2, a3, a0, a1, (hi_go (l.drop i) ms ad).1 ++ (hi_go (l.drop i) ms ad).2) := by
    intro d
    induction d with
    | zero =>
      intro i ms ad hi ho
      apply Ev_unfold
      rw [List.drop_eq_nil_of_le (show l.length ≤ i by omega), hi_go]
      simp only [redlineref11_Invert.l0, if_neg (show ¬ (i : Int) < (l.length : Int) by omega), if_pos (show ms.length + ad.length < 5864062014805 by omega)]
      exact Ev.now _
    | succ d ih =>
      intro i ms ad hi ho
      apply Ev_unfold
      have o2 : i < 4611686018427387904 := by omega
      rw [dropMk l i (by omega), hi_go]
      obtain ⟨m, hm⟩ : ∃ m, l.getD i zm = m := ⟨_, rfl⟩
      simp only [redlineref11_Invert.l0, if_pos (show (i : Int) < (l.length : Int) by omega), if_pos (show (0 : Int) ≤ (i : Int) by omega), rdMk_nat, hm, bsome, List.length_singleton, wadd i o2]
      by_cases h1 : m.f0 = 43
      · simp only [if_pos h1, if_pos (show ms.length + 1 < 5864062014805 by omega)]
        exact ih (i + 1) _ _ (by omega) (by rw [List.length_append, List.length_singleton]; omega)
      · simp only [if_neg h1]
        by_cases h2 : m.f0 = 45
        · simp only [if_pos h2, if_pos (show ad.length + 1 < 5864062014805 by omega)]
          exact ih (i + 1) _ _ (by omega) (by rw [List.length_append, List.length_singleton]; omega)
        · simp only [if_neg h2, if_pos (show ms.length + ad.length < 5864062014805 by omega), if_pos (show (ms ++ ad).length + 1 < 5864062014805 by rw [List.length_append]; omega)]
          exact ih (i + 1) _ _ (by omega) (by rw [List.length_append, List.length_append, List.length_singleton, List.length_nil]; omega)
  unfold redlineref11_Invert.f
  have := go l.length 0 [] [] (by omega) rfl
  rw [List.drop_zero] at this
  exact this
theorem pk_len (s : Int) (ms : List Mk) : (pk s ms).length ≤ ms.length := by
  unfold pk
  rw [List.length_map]
  exact List.length_filter_le _ _
end H12
end Go.Proofs.Ytnbeppnpfdempaa.Q
