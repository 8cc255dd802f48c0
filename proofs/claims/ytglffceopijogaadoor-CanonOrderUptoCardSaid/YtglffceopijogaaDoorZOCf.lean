/- plain: the law CanonOrder -/
import Derived.Test.YtglffceopijogaaDoorZOCe
import Derived.Test.YtglffceopijogaaDoorZOXx63
import Derived.Test.YtglffceopijogaaDoorZOXx64
namespace Go.Proofs.YtglffceopijogaaDoor.Q
set_option linter.unusedVariables false
set_option linter.unusedSimpArgs false
open Go.RowKit Go.Proofs.YtglffceopijogaaDoor.X Go.Proofs.YtglffceopijogaaDoorW.PrintWords Go.Proofs.YtglffceopijogaaDoorW.PrintLast Go.Proofs.YtglffceopijogaaDoorW.PrintMore
namespace C3
theorem eq_p (x y : ByteArray) (a0 a1 a2 a3 a4 a5 : Bool) (hx : x.size ≤ 10000000) (hy : y.size ≤ 10000000) : canon_Equal.f x y a0 a1 a2 a3 a4 a5 = some (decide (wl a0 a1 a3 a4 a5 x = wl a0 a1 a3 a4 a5 y)) := by
  rw [equal_p x y _ _ _ _ _ _ hx hy, cn_list, cn_list]
  congr 1
  by_cases h : wl a0 a1 a3 a4 a5 x = wl a0 a1 a3 a4 a5 y
  · rw [h, decide_eq_true rfl, beq_self_eq_true]
  · rw [decide_eq_false h, beq_eq_false_iff_ne.mpr h]
theorem works_true : redlinelaw03_works.f = some true := by
  have e1 : cn true false false false false (⟨#[32, 65, 9, 32, 98, 32, 10]⟩ : ByteArray) = (⟨#[32, 65, 32, 98, 10]⟩ : ByteArray) := by decide +kernel
  have e2 : cn false true true false false (⟨#[32, 65, 9, 32, 98, 32, 10]⟩ : ByteArray) = (⟨#[97, 98, 10]⟩ : ByteArray) := by decide +kernel
  have e3 : canon_Blank.f (⟨#[32, 10]⟩ : ByteArray) false false false false false true = some true := by
    unfold canon_Blank.f
    have b1 : bare (⟨#[32, 10]⟩ : ByteArray) = ((⟨#[32]⟩ : ByteArray), true) := by decide +kernel
    rw [bare_p _ (by decide), bsome, b1, text_p _ _ _ _ _ _ _ (by decide), bsome]
    have b2 : tt (txl false false false false true (⟨#[32]⟩ : ByteArray).data.toList) = (⟨#[]⟩ : ByteArray) := by decide +kernel
    rw [b2, Lib.toList_data]
    rfl
  have e4 : canon_Equal.f (⟨#[97]⟩ : ByteArray) (⟨#[97, 10]⟩ : ByteArray) false true false false false false = some false := by
    rw [eq_p _ _ _ _ _ _ _ _ (by decide) (by decide)]
    have : wl false true false false false (⟨#[97]⟩ : ByteArray) ≠ wl false true false false false (⟨#[97, 10]⟩ : ByteArray) := by decide +kernel
    rw [decide_eq_false this]
  unfold redlinelaw03_works.f
  rw [canon_p _ _ _ _ _ _ _ (by decide), bsome, e1, canon_p _ _ _ _ _ _ _ (by decide), bsome, e2, e3, e4]
  have c1 : (⟨#[32, 65, 32, 98, 10]⟩ : ByteArray).toList = ([32, 65, 32, 98, 10] : List UInt8) := by rw [Lib.toList_data]
  have c2 : (⟨#[97, 98, 10]⟩ : ByteArray).toList = ([97, 98, 10] : List UInt8) := by rw [Lib.toList_data]
  rw [if_pos c1, if_pos c2, bsome, if_pos rfl, bsome]
  rfl
section
variable (a b : ByteArray) (ha : a.size ≤ 10000000) (hb : b.size ≤ 10000000)
include ha hb
theorem ord_round (a2 a3 a4 : Bool) (i : Int) (h0 : 0 ≤ i) (hi : i < 4) (was : Bool) (h1 : was = true → wl (i == 2) (i == 3) a3 a4 (i == 1) a = wl (i == 2) (i == 3) a3 a4 (i == 1) b)
    (h2 : Ev (fun k => redlinelaw03_CanonOrder.l0 k a b (decide (wl (i == 2) (i == 3) a3 a4 (i == 1) a = wl (i == 2) (i == 3) a3 a4 (i == 1) b)) (i + 1) false false a2 a3 a4 false) true) :
    Ev (fun k => redlinelaw03_CanonOrder.l0 k a b was i false false a2 a3 a4 false) true := by
  apply Ev_unfold
  have hw : wrap64 (i + 1) = i + 1 := w64 _ (by omega)
  obtain ⟨now, hn⟩ : ∃ now, decide (wl (i == 2) (i == 3) a3 a4 (i == 1) a = wl (i == 2) (i == 3) a3 a4 (i == 1) b) = now := ⟨_, rfl⟩
  have e1 := eq_p a b (i == 2) (i == 3) a2 a3 a4 (i == 1) ha hb
  have e2 := eq_p a b (i == 2) (i == 3) a2 true a4 (i == 1) ha hb
  rw [hn] at e1 h2
  have step : Ev (fun k => redlinelaw03_CanonOrder.j2 k a b i now false false false a2 a3 a4 false (i == 2) (i == 3) a2 a3 a4 (i == 1)) true := by
    apply Ev_unfold
    simp only [redlinelaw03_CanonOrder.j2, Bool.false_eq_true, if_false, hw]
    cases now with
    | false => simp only [Bool.false_eq_true, if_false]; exact h2
    | true =>
      have h3 := of_decide_eq_true hn
      have h4 : wl (i == 2) (i == 3) true a4 (i == 1) a = wl (i == 2) (i == 3) true a4 (i == 1) b := by rw [wl_case _ _ a3, wl_case _ _ a3 _ _ b, h3]
      rw [decide_eq_true h4] at e2
      simp only [if_true, e2, bsome]
      exact h2
  simp only [redlinelaw03_CanonOrder.l0, if_pos hi, e1, bsome]
  cases was with
  | false => simp only [Bool.false_eq_true, if_false]; exact step
  | true =>
    rw [decide_eq_true (h1 rfl)] at hn
    subst hn
    simp only [if_true, Bool.not_true]
    exact step
theorem ord_rest (a0 a1 a2 a3 a4 a5 : Bool) : Ev (fun k => redlinelaw03_CanonOrder.j0 k a b false a0 a1 a2 a3 a4 a5) true := by
  apply Ev_unfold
  simp only [redlinelaw03_CanonOrder.j0, Bool.false_eq_true, if_false, eq_p a b false false a2 a3 a4 false ha hb, bsome]
  refine ord_round a b ha hb a2 a3 a4 0 (by omega) (by omega) _ (fun h => of_decide_eq_true h) ?_
  refine ord_round a b ha hb a2 a3 a4 1 (by omega) (by omega) _ (fun h => wl_trail a3 a4 a b (of_decide_eq_true h)) ?_
  refine ord_round a b ha hb a2 a3 a4 2 (by omega) (by omega) _ (fun h => ?_) ?_
  · have h2 : wl false false a3 a4 true a = wl false false a3 a4 true b := of_decide_eq_true h
    show wl true false a3 a4 false a = wl true false a3 a4 false b
    rw [wl_space, wl_space, h2]
  refine ord_round a b ha hb a2 a3 a4 3 (by omega) (by omega) _ (fun h => ?_) ?_
  · have h2 : wl true false a3 a4 false a = wl true false a3 a4 false b := of_decide_eq_true h
    show wl false true a3 a4 false a = wl false true a3 a4 false b
    rw [wl_white, wl_white, h2]
  apply Ev_unfold
  simp only [redlinelaw03_CanonOrder.l0, if_neg (show ¬ ((0 : Int) + 1 + 1 + 1 + 1) < 4 by omega), if_neg (show ¬ ((3 : Int) + 1) < 4 by omega)]
  exact Ev.now _
end
theorem order_all (a b c : ByteArray) (a0 a1 a2 a3 a4 a5 : Bool) (ha : a.size ≤ 10000000) (hb : b.size ≤ 10000000) (hc : c.size ≤ 10000000) : Ev (fun k => redlinelaw03_CanonOrder.f k a b c a0 a1 a2 a3 a4 a5) true := by
  have rest := ord_rest a b ha hb a0 a1 a2 a3 a4 a5
  unfold redlinelaw03_CanonOrder.f
  have haa := eq_p a a a0 a1 a2 a3 a4 a5 ha ha
  rw [decide_eq_true rfl] at haa
  have hab := eq_p a b a0 a1 a2 a3 a4 a5 ha hb
  have hba := eq_p b a a0 a1 a2 a3 a4 a5 hb ha
  have hsym : decide (wl a0 a1 a3 a4 a5 b = wl a0 a1 a3 a4 a5 a) = decide (wl a0 a1 a3 a4 a5 a = wl a0 a1 a3 a4 a5 b) := decide_eq_decide.2 eq_comm
  rw [hsym] at hba
  have hbc := eq_p b c a0 a1 a2 a3 a4 a5 hb hc
  have hac := eq_p a c a0 a1 a2 a3 a4 a5 ha hc
  simp only [works_true, bsome, if_true, haa, hab, hba, bne_self_eq_false, Bool.false_eq_true, if_false]
  by_cases h1 : wl a0 a1 a3 a4 a5 a = wl a0 a1 a3 a4 a5 b
  · simp only [decide_eq_true h1, if_true, hbc, bsome]
    by_cases h2 : wl a0 a1 a3 a4 a5 b = wl a0 a1 a3 a4 a5 c
    · rw [decide_eq_true (h1.trans h2)] at hac
      simp only [decide_eq_true h2, if_true, hac, bsome, Bool.not_true]
      exact rest
    · simp only [decide_eq_false h2, Bool.false_eq_true, if_false]
      exact rest
  · simp only [decide_eq_false h1, Bool.false_eq_true, if_false]
    exact rest
end C3
end Go.Proofs.YtglffceopijogaaDoor.Q
