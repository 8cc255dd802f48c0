/- plain: the groups of an edit script: the program's answer and the reference's -/
import Derived.Test.YtmnajajnbmlihaaZMUa
namespace Go.Proofs.Ytmnajajnbmlihaa.Q
set_option linter.unusedVariables false
set_option linter.unusedSimpArgs false
open Go.RowKit Go.Proofs.Ytmnajajnbmlihaa.X Go.Proofs.YtmnajajnbmlihaaW.PrintWords Go.Proofs.YtmnajajnbmlihaaW.PrintLast Go.Proofs.YtmnajajnbmlihaaW.PrintMore
namespace H11
theorem chn_at {n m : Int} : ∀ (l : List Ch) (a b : Int) (c : Ch), Chn n m a b l → c ∈ l → Small c.f0 ∧ Small c.f1 ∧ Small c.f2 ∧ Small c.f3
  | c' :: l, a, b, c, h, hc => by
    obtain ⟨h0, h1, h2, h3, h4, h5, h6, h7, h8⟩ := h
    cases hc with
    | head => exact ⟨h0, h1, h2, h3⟩
    | tail _ hc => exact chn_at l _ _ c h8 hc
theorem get_mem (l : List Ch) (i : Nat) (h : i < l.length) : l.getD i zc ∈ l := by
  rw [List.getD_eq_getElem?_getD, List.getElem?_eq_getElem h]
  exact List.getElem_mem h
theorem take_snoc (l : List Ch) (i s : Nat) (h : i < l.length) (hs : s ≤ i) : (l.take (i + 1)).drop s = (l.take i).drop s ++ [l.getD i zc] := by
  rw [List.take_succ_eq_append_getElem h, List.drop_append_of_le_length (by rw [List.length_take]; omega)]
  simp [List.getD_eq_getElem?_getD, h]
theorem clone_ok (l : List Ch) (hl : l.length ≤ 4398046511103) (s i : Nat) (hi : i ≤ l.length) : api_Change.f ((l.take i).drop s) = some ((l.take i).drop s) := by
  unfold api_Change.f
  rw [if_pos (by rw [List.length_drop, List.length_take]; omega)]
section
variable (l : List Ch) (hl : l.length ≤ 4398046511103) (hs : ∀ c ∈ l, Small c.f0 ∧ Small c.f1 ∧ Small c.f2 ∧ Small c.f3) (ctx : Int) (hc : 0 ≤ ctx ∧ ctx ≤ 100)
include hl hs hc
theorem group_prog : ∀ (d i s : Nat) (out : List (List Ch)), i + d = l.length → s < i → out.length ≤ s →
    Ev (fun k => hunks_Group.l0 k l ctx out (s : Int) (i : Int)) (out ++ gs ctx ((l.take i).drop s) (l.getD (i - 1) zc) (l.drop i), 0) := by
  have w2 : wrap64 (2 * ctx) = 2 * ctx := w64 _ (by omega)
  intro d
  induction d with
  | zero =>
    intro i s out hi hsi ho
    have e : i = l.length := by omega
    apply Ev_unfold
    rw [List.drop_eq_nil_of_le (show l.length ≤ i by omega), gs]
    have o1 : out.length < 5864062014805 := by omega
    have o2 : i < 4611686018427387904 := by omega
    simp only [hunks_Group.l0, if_pos (show (i : Int) ≤ (l.length : Int) by omega), if_pos (show (i : Int) = (l.length : Int) by omega), if_pos (show (0 : Int) ≤ (s : Int) by omega), if_pos (show (s : Int) ≤ (i : Int) by omega), Int.toNat_natCast, clone_ok l hl s i (by omega), bsome, if_pos o1, wadd i o2]
    apply Ev_unfold
    simp only [hunks_Group.l0, if_neg (show ¬ ((i + 1 : Nat) : Int) ≤ (l.length : Int) by omega)]
    exact Ev.now _
  | succ d ih =>
    intro i s out hi hsi ho
    apply Ev_unfold
    rw [dropC l i (by omega), gs]
    have o1 : out.length < 5864062014805 := by omega
    have o2 : i < 4611686018427387904 := by omega
    have o3 : wrap64 ((i : Int) - 1) = ((i - 1 : Nat) : Int) := by rw [w64 _ (by omega)]; omega
    obtain ⟨c, hcc⟩ : ∃ c, l.getD i zc = c := ⟨_, rfl⟩
    obtain ⟨p, hpp⟩ : ∃ p, l.getD (i - 1) zc = p := ⟨_, rfl⟩
    obtain ⟨s0, s1, s2, s3⟩ := hs c (hcc ▸ get_mem l i (by omega))
    obtain ⟨t0, t1, t2, t3⟩ := hs p (hpp ▸ get_mem l (i - 1) (by omega))
    unfold Small at s0 s1 t0 t1
    have w1 : wrap64 (p.f0 + p.f1) = p.f0 + p.f1 := w64 _ (by omega)
    have w3 : wrap64 (c.f0 - (p.f0 + p.f1)) = c.f0 - (p.f0 + p.f1) := w64 _ (by omega)
    simp only [hunks_Group.l0, if_pos (show (i : Int) ≤ (l.length : Int) by omega), if_neg (show ¬ (i : Int) = (l.length : Int) by omega), if_pos (show (0 : Int) ≤ (i : Int) by omega), if_pos (show (i : Int) < (l.length : Int) by omega), o3, if_pos (show (0 : Int) ≤ ((i - 1 : Nat) : Int) by omega), if_pos (show ((i - 1 : Nat) : Int) < (l.length : Int) by omega), rdCh_nat, hcc, hpp, w1, w2, w3]
    by_cases h : c.f0 - (p.f0 + p.f1) > 2 * ctx
    · rw [if_pos h]
      simp only [if_pos h, if_pos (show (0 : Int) ≤ (s : Int) by omega), if_pos (show (s : Int) ≤ (i : Int) by omega), Int.toNat_natCast, clone_ok l hl s i (by omega), bsome, if_pos o1, wadd i o2]
      have := ih (i + 1) i (out ++ [(l.take i).drop s]) (by omega) (by omega) (by rw [List.length_append, List.length_singleton]; omega)
      rw [take_snoc l i i (by omega) (Nat.le_refl _), List.drop_eq_nil_of_le (show (l.take i).length ≤ i by rw [List.length_take]; omega), List.nil_append, Nat.add_sub_cancel, hcc, List.append_assoc, List.singleton_append] at this
      exact this
    · rw [if_neg h]
      simp only [if_neg h, wadd i o2]
      have := ih (i + 1) s out (by omega) (by omega) ho
      rw [take_snoc l i s (by omega) (by omega), Nat.add_sub_cancel, hcc] at this
      exact this
theorem group_ref : ∀ (d i : Nat) (out : List (List Ch)) (cur : List Ch), i + d = l.length → 0 < i → out.length + cur.length ≤ i → 1 ≤ cur.length →
    Ev (fun k => redlineref11_Group.l0 k l ctx (out ++ [cur]) (i : Int)) (out ++ gs ctx cur (l.getD (i - 1) zc) (l.drop i), 0) := by
  have w2 : wrap64 (2 * ctx) = 2 * ctx := w64 _ (by omega)
  intro d
  induction d with
  | zero =>
    intro i out cur hi hi0 ho hcu
    apply Ev_unfold
    rw [List.drop_eq_nil_of_le (show l.length ≤ i by omega), gs]
    simp only [redlineref11_Group.l0, if_neg (show ¬ (i : Int) < (l.length : Int) by omega)]
    exact Ev.now _
  | succ d ih =>
    intro i out cur hi hi0 ho hcu
    apply Ev_unfold
    rw [dropC l i (by omega), gs]
    have o2 : i < 4611686018427387904 := by omega
    have o3 : wrap64 ((i : Int) - 1) = ((i - 1 : Nat) : Int) := by rw [w64 _ (by omega)]; omega
    have o4 : wrap64 (((out ++ [cur]).length : Int) - 1) = (out.length : Int) := by rw [List.length_append, List.length_singleton, w64 _ (by omega)]; omega
    have o5 : (out.length : Int) < ((out ++ [cur]).length : Int) := by rw [List.length_append, List.length_singleton]; omega
    have o6 : rd_L2 (out ++ [cur]) (out.length : Int) = cur := by
      unfold rd_L2
      rw [Int.toNat_natCast]
      simp [List.getD_eq_getElem?_getD]
    have o7 : cur.length < 4398046511104 := by omega
    have o8 : (out ++ [cur]).length < 5864062014805 := by rw [List.length_append, List.length_singleton]; omega
    obtain ⟨c, hcc⟩ : ∃ c, l.getD i zc = c := ⟨_, rfl⟩
    obtain ⟨p, hpp⟩ : ∃ p, l.getD (i - 1) zc = p := ⟨_, rfl⟩
    obtain ⟨s0, s1, s2, s3⟩ := hs c (hcc ▸ get_mem l i (by omega))
    obtain ⟨t0, t1, t2, t3⟩ := hs p (hpp ▸ get_mem l (i - 1) (by omega))
    unfold Small at s0 s1 t0 t1
    have w1 : wrap64 (c.f0 - p.f0) = c.f0 - p.f0 := w64 _ (by omega)
    have w3 : wrap64 (c.f0 - p.f0 - p.f1) = c.f0 - p.f0 - p.f1 := w64 _ (by omega)
    have eta : (⟨c.f0, c.f1, c.f2, c.f3⟩ : Ch) = c := rfl
    simp only [redlineref11_Group.l0, if_pos (show (i : Int) < (l.length : Int) by omega), if_pos (show (i : Int) > 0 by omega), if_pos (show (0 : Int) ≤ (i : Int) by omega), o3, if_pos (show (0 : Int) ≤ ((i - 1 : Nat) : Int) by omega), if_pos (show ((i - 1 : Nat) : Int) < (l.length : Int) by omega), rdCh_nat, hcc, hpp, w1, w2, w3, eta]
    by_cases h : c.f0 - p.f0 - p.f1 ≤ 2 * ctx
    · rw [if_neg (show ¬ c.f0 - (p.f0 + p.f1) > 2 * ctx by omega)]
      simp only [if_pos h, o4, if_pos (show (0 : Int) ≤ (out.length : Int) by omega), if_pos o5, o6, if_pos o7, Int.toNat_natCast, wadd i o2]
      rw [set_append_cons]
      have := ih (i + 1) out (cur ++ [c]) (by omega) (by omega) (by rw [List.length_append, List.length_singleton]; omega) (by rw [List.length_append, List.length_singleton]; omega)
      rw [Nat.add_sub_cancel, hcc] at this
      exact this
    · rw [if_pos (show c.f0 - (p.f0 + p.f1) > 2 * ctx by omega)]
      simp only [if_neg h, if_pos o8, wadd i o2]
      have := ih (i + 1) (out ++ [cur]) [c] (by omega) (by omega) (by rw [List.length_append, List.length_singleton, List.length_singleton]; omega) (by simp)
      rw [Nat.add_sub_cancel, hcc] at this
      have e9 : out ++ [cur] ++ gs ctx [c] c (l.drop (i + 1)) = out ++ cur :: gs ctx [c] c (l.drop (i + 1)) := by rw [List.append_assoc, List.singleton_append]
      rw [e9] at this
      exact this
end
/-- the groups, or what is wrong -/
def gout (n m ctx : Int) (l : List Ch) : List (List Ch) × Int := if chk n m l true 0 0 = true then (if ctx < 0 ∨ ctx > 100 then ([], 2) else (grp ctx l, 0)) else ([], 50)
section
variable (n m : Int) (hn : 0 ≤ n ∧ n ≤ 1000000000000000) (hm : 0 ≤ m ∧ m ≤ 1000000000000000) (l : List Ch) (hl : l.length ≤ 4398046511103) (ctx : Int)
include hn hm hl
theorem group_p : Ev (fun k => hunks_Group.f k l n m ctx) (gout n m ctx l) := by
  unfold hunks_Group.f
  refine Ev.bind (check_p n m hn hm l (by omega)) ?_
  unfold cko gout
  by_cases h : chk n m l true 0 0 = true
  case neg => simp only [if_neg h, if_neg (show ¬ (50 : Int) = 0 by decide)]; exact Ev.now _
  have hs := fun c hc => chn_at l 0 0 c (chn_of l true 0 0 h) hc
  simp only [if_pos h, if_true]
  have hj : ∀ b : Bool, (b = true ↔ ctx < 0 ∨ ctx > 100) → Ev (fun k => hunks_Group.j0 k l ctx b) (if ctx < 0 ∨ ctx > 100 then ([], 2) else (grp ctx l, 0)) := by
    intro b hb
    apply Ev_unfold
    cases b with
    | true => rw [if_pos (hb.1 rfl)]; simp only [hunks_Group.j0, if_true]; exact Ev.now _
    | false =>
      have hc : ¬ (ctx < 0 ∨ ctx > 100) := fun e => Bool.noConfusion (hb.2 e)
      rw [if_neg hc]
      simp only [hunks_Group.j0, Bool.false_eq_true, if_false]
      cases l with
      | nil =>
        apply Ev_unfold
        simp only [hunks_Group.l0, List.length_nil, Int.natCast_zero, if_neg (show ¬ (1 : Int) ≤ 0 by decide), grp]
        exact Ev.now _
      | cons c l =>
        have := group_prog (c :: l) hl hs ctx (by omega) l.length 1 0 [] (by simp only [List.length_cons]; omega) (by omega) (by simp)
        simpa [grp] using this
  by_cases h1 : ctx < 0
  · simp only [if_pos h1]; exact hj true ⟨fun _ => .inl h1, fun _ => rfl⟩
  · simp only [if_neg h1]
    refine hj _ ?_
    rw [decide_eq_true_iff]
    omega
theorem group_r : Ev (fun k => redlineref11_Group.f k l n m ctx) (gout n m ctx l) := by
  unfold redlineref11_Group.f
  refine Ev.bind (check_r n m hn hm l (by omega)) ?_
  unfold cko gout
  by_cases h : chk n m l true 0 0 = true
  case neg => simp only [if_neg h, if_neg (show ¬ (50 : Int) = 0 by decide)]; exact Ev.now _
  have hs := fun c hc => chn_at l 0 0 c (chn_of l true 0 0 h) hc
  simp only [if_pos h, if_true]
  have hj : ∀ b : Bool, (b = true ↔ ctx < 0 ∨ ctx > 100) → Ev (fun k => redlineref11_Group.j0 k l ctx b) (if ctx < 0 ∨ ctx > 100 then ([], 2) else (grp ctx l, 0)) := by
    intro b hb
    apply Ev_unfold
    cases b with
    | true => rw [if_pos (hb.1 rfl)]; simp only [redlineref11_Group.j0, if_true]; exact Ev.now _
    | false =>
      have hc : ¬ (ctx < 0 ∨ ctx > 100) := fun e => Bool.noConfusion (hb.2 e)
      rw [if_neg hc]
      simp only [redlineref11_Group.j0, Bool.false_eq_true, if_false]
      apply Ev_unfold
      cases l with
      | nil =>
        simp only [redlineref11_Group.l0, List.length_nil, Int.natCast_zero, if_neg (show ¬ (0 : Int) < 0 by decide), grp]
        exact Ev.now _
      | cons c l =>
        have := group_ref (c :: l) hl hs ctx (by omega) l.length 1 [] [c] (by simp only [List.length_cons]; omega) (by omega) (by simp) (by simp)
        have e0 : rd_T35 (c :: l) 0 = c := rdCh_nat (c :: l) 0
        have eta : (⟨c.f0, c.f1, c.f2, c.f3⟩ : Ch) = c := rfl
        have w1 : wrap64 (0 + 1) = 1 := (w64 _ (by omega)).trans (by omega)
        simp only [redlineref11_Group.l0, if_pos (show (0 : Int) < ((c :: l).length : Int) by simp only [List.length_cons]; omega), if_neg (show ¬ (0 : Int) > 0 by decide), if_pos (show (0 : Int) ≤ 0 by decide), List.length_nil, if_pos (show 0 < 5864062014805 by decide), e0, eta, w1, List.nil_append]
        simpa [grp] using this
  by_cases h1 : ctx < 0
  · simp only [if_pos h1]; exact hj true ⟨fun _ => .inl h1, fun _ => rfl⟩
  · simp only [if_neg h1]
    refine hj _ ?_
    rw [decide_eq_true_iff]
    omega
end
end H11
end Go.Proofs.Ytmnajajnbmlihaa.Q
