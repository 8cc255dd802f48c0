/- plain: which hunks are right: the program's answer and the reference's -/
import Derived.Test.YtnbeppnpfdempaaZAVa
import Derived.Test.YtnbeppnpfdempaaZAXx35
import Derived.Test.YtnbeppnpfdempaaZAXx36
import Derived.Test.YtnbeppnpfdempaaZAXx56
import Derived.Test.YtnbeppnpfdempaaZAXx57
import Derived.Test.YtnbeppnpfdempaaZAXx61
import Derived.Test.YtnbeppnpfdempaaZAXx62
namespace Go.Proofs.Ytnbeppnpfdempaa.Q
set_option linter.unusedVariables false
set_option linter.unusedSimpArgs false
open Go.RowKit Go.Proofs.Ytnbeppnpfdempaa.X Go.Proofs.YtnbeppnpfdempaaW.PrintWords Go.Proofs.YtnbeppnpfdempaaW.PrintLast Go.Proofs.YtnbeppnpfdempaaW.PrintMore
namespace H12
theorem getMk_mem (l : List Mk) (i : Nat) (h : i < l.length) : l.getD i zm ∈ l := by
  rw [List.getD_eq_getElem?_getD, List.getElem?_eq_getElem h]
  exact List.getElem_mem h
theorem RF_cons (m : Mk) (l : List Mk) : RF (m :: l) = ((lk m.f1 && (io m || inw m)) && (fd m.f1 || !((io m && l.any io) || (inw m && l.any inw))) && RF l) := rfl
theorem fields_l (a b c e : Int) (ms : List Mk) (hl : ms.length ≤ 1000000000000000) (hs : ∀ m ∈ ms, m.f1.size ≤ 1000000000000000000) : ∀ (d i : Nat), i + d = ms.length → Ev (fun k => redlineref11_fields.l0 k (i : Int) a b c e ms) (RF (ms.drop i)) := by
  intro d
  induction d with
  | zero =>
    intro i hi
    apply Ev_unfold
    rw [List.drop_eq_nil_of_le (show ms.length ≤ i by omega)]
    simp only [redlineref11_fields.l0, if_neg (show ¬ (i : Int) < (ms.length : Int) by omega)]
    exact Ev.now _
  | succ d ih =>
    intro i hi
    apply Ev_unfold
    rw [dropMk ms i (by omega)]
    have o2 : i < 4611686018427387904 := by omega
    obtain ⟨m, hm⟩ : ∃ m, ms.getD i zm = m := ⟨_, rfl⟩
    have hsm := hs m (hm ▸ getMk_mem ms i (by omega))
    have hgo := ih (i + 1) (by omega)
    obtain ⟨l, hll⟩ : ∃ l, ms.drop (i + 1) = l := ⟨_, rfl⟩
    have l45 : Ev (fun k => redlineref11_last.f k a b c e ms (i : Int) 45) (!l.any io) := by
      unfold redlineref11_last.f
      rw [wadd i o2, ← hll]
      exact last_l 45 a b c e ms hl d (i + 1) (by omega)
    have l43 : Ev (fun k => redlineref11_last.f k a b c e ms (i : Int) 43) (!l.any inw) := by
      unfold redlineref11_last.f
      rw [wadd i o2, ← hll]
      exact last_l 43 a b c e ms hl d (i + 1) (by omega)
    rw [hll] at hgo
    rw [hm, hll]
    have hbad : ∀ f : Bool, Ev (fun k => redlineref11_fields.j1 k (i : Int) f true a b c e ms m.f0 m.f1) false := fun f => by
      apply Ev_unfold
      simp only [redlineref11_fields.j1, if_true]
      exact Ev.now _
    have hok : lk m.f1 = true → (m.f0 = 32 ∨ m.f0 = 45 ∨ m.f0 = 43) → Ev (fun k => redlineref11_fields.j1 k (i : Int) (fd m.f1) false a b c e ms m.f0 m.f1) (RF (m :: l)) := fun hk hsg => by
      apply Ev_unfold
      have hsb : (io m || inw m) = true := by unfold io inw; rcases hsg with h | h | h <;> rw [h] <;> rfl
      rw [RF_cons, hk, hsb]
      simp only [redlineref11_fields.j1, Bool.false_eq_true, if_false, wadd i o2]
      cases hf : fd m.f1 with
      | true => simp only [if_true]; exact hgo
      | false =>
        simp only [Bool.false_eq_true, if_false]
        rcases hsg with h | h | h
        · have e1 : io m = true := by unfold io; rw [h]; rfl
          have e2 : inw m = true := by unfold inw; rw [h]; rfl
          simp only [if_neg (show ¬ m.f0 = 43 by omega), e1, e2]
          refine Ev.bind l45 ?_
          cases l.any io
          · simp only [Bool.not_false, if_true, if_neg (show ¬ m.f0 = 45 by omega)]
            refine Ev.bind l43 ?_
            cases l.any inw
            · exact hgo
            · exact Ev.now _
          · exact Ev.now _
        · have e1 : io m = true := by unfold io; rw [h]; rfl
          have e2 : inw m = false := by unfold inw; rw [h]; rfl
          simp only [if_neg (show ¬ m.f0 = 43 by omega), e1, e2]
          refine Ev.bind l45 ?_
          cases l.any io
          · simp only [Bool.not_false, if_true, if_pos h]
            exact hgo
          · exact Ev.now _
        · have e1 : io m = false := by unfold io; rw [h]; rfl
          have e2 : inw m = true := by unfold inw; rw [h]; rfl
          simp only [if_pos h, if_neg (show ¬ m.f0 = 45 by omega), e1, e2]
          refine Ev.bind l43 ?_
          cases l.any inw
          · exact hgo
          · exact Ev.now _
    simp only [redlineref11_fields.l0, if_pos (show (i : Int) < (ms.length : Int) by omega), if_pos (show (0 : Int) ≤ (i : Int) by omega), rdMk_nat, hm]
    refine Ev.bind (line_r m.f1 hsm) ?_
    unfold lres
    by_cases hk : lk m.f1 = true
    · simp only [if_pos hk, if_true]
      by_cases h1 : m.f0 = 32
      · simp only [if_pos h1]; exact hok hk (.inl h1)
      by_cases h2 : m.f0 = 45
      · simp only [if_neg h1, if_pos h2]; exact hok hk (.inr (.inl h2))
      simp only [if_neg h1, if_neg h2]
      by_cases h3 : m.f0 = 43
      · rw [show (m.f0 != 43) = false by rw [h3]; rfl]; exact hok hk (.inr (.inr h3))
      · have hsb : (io m || inw m) = false := by unfold io inw; simp [h1, h2, h3]
        rw [show (m.f0 != 43) = true by simp [h3], RF_cons, hsb, Bool.and_false]
        exact hbad _
    · have e0 : lk m.f1 = false := by simpa using hk
      simp only [if_neg hk, Bool.false_eq_true, if_false]
      rw [RF_cons, e0]
      exact hbad _
theorem fields_r (a b c e : Int) (ms : List Mk) (hl : ms.length ≤ 1000000000000000) (hs : ∀ m ∈ ms, m.f1.size ≤ 1000000000000000000) : Ev (fun k => redlineref11_fields.f k a b c e ms) (RF ms) := by
  unfold redlineref11_fields.f
  exact fields_l a b c e ms hl hs ms.length 0 (by omega)
end H12
end Go.Proofs.Ytnbeppnpfdempaa.Q
