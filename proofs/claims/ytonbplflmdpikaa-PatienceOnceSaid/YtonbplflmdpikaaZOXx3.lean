import Derived.Test.YtonbplflmdpikaaZOXx0
namespace Go.Proofs.Ytonbplflmdpikaa.X
open Go.RowKit Go.Proofs.YtonbplflmdpikaaW.PrintWords Go.Proofs.YtonbplflmdpikaaW.PrintLast Go.Proofs.YtonbplflmdpikaaW.PrintMore
attribute [local go_sem] max2_int min2_int max_two min_two max_three min_three max_four min_four   -- for this text's walks alone
open Go.Proofs.YtonbplflmdpikaaW.HandWords
set_option linter.unusedVariables false
set_option linter.unusedSimpArgs false
def slices_Max_int_int.f (l0 : List Int) : Option Int :=
  match l0 with
  | [] => none
  | n :: ns => if ns.length < 1000000 then some (ns.foldl mx n) else none
set_option maxHeartbeats 2000000 in
set_option maxRecDepth 100000 in
theorem slices_Max_int_int.calls (A0 : Option Addr) (c0 : Nat) (l0 : List Int) (r : Int) (w : World) (hr0 : Kd.C (Kd.int .i64) w A0 l0.length l0) (hc0 : l0.length ≤ c0) (h : slices_Max_int_int.f l0 = some r) :
    Calls Try.prog 21 #[.slice A0 l0.length c0] w fun e w' => e = .returned (.int .i64 r) ∧ ∃ nd, w' = w.drewN nd := by
  have HB : Aside0 (∃ nd, w = w.drewN nd) := ⟨0, rfl⟩
  have HR0 := Aside0.mk hr0
  clear hr0
  have hlen : 0 < l0.length ∧ l0.length ≤ 1000000 := by
    cases l0 with
    | nil => simp [slices_Max_int_int.f] at h
    | cons n ns =>
      simp only [slices_Max_int_int.f] at h
      by_cases hl : ns.length < 1000000
      · simp only [List.length_cons]; omega
      · rw [if_neg hl] at h; cases h
  have HA0 : Aside0 ((l0.drop (1 : Int).toNat).foldl mx (rd l0 0) = r) := ⟨by
    cases l0 with
    | nil => simp at hlen
    | cons n ns =>
      simp only [slices_Max_int_int.f] at h
      rw [if_pos (by have := hlen.2; simp only [List.length_cons] at this; omega)] at h
      exact Option.some.inj h⟩
  clear h
  have hl0 : decide ((l0.length : Int) < 1) = false := decide_eq_false (by omega)
  have hz : (0 : Int) < (l0.length : Int) := by omega
  obtain ⟨ad0, ea0, hx0⟩ := Kd.at_int HR0.out 0 (by omega) hz
  cases ea0
  have p2 := eq_true hz
  have hx1 : w.cell? ad0 = some (.int .i64 (rd l0 0)) := by
    have e : ad0.add (0 : Int).toNat = ad0 := by
      unfold Addr.add
      cases ad0 with
      | mk b o f => cases f <;> simp
    rw [e] at hx0
    exact hx0
  go_enter Try.func21, Try.ntmps21
  go_wp2
  have hl1 : l0.length ≤ 1000000 := hlen.2
  have hl2 : 0 < l0.length := hlen.1
  clear hl0 hx0 hx1 hz p2 hlen
  go_loopg [4, 3] (l0.length - 1) (fun q v4 v3 w' => ∃ (z m : Int), v4 = .int .i64 z ∧ v3 = .int .i64 m ∧ 0 ≤ z ∧ z ≤ 1000000 ∧ Aside0 (z + (q : Int) = (l0.length : Int)) ∧ Aside0 ((l0.drop z.toNat).foldl mx m = r) ∧ Aside0 (∃ nd, w' = w.drewN nd))
  case atStart => exact ⟨1, rd l0 0, rfl, rfl, by omega, by omega, ⟨by omega⟩, HA0, HB⟩
  case round =>
    clear HA0 HB
    obtain ⟨z, m, rfl, rfl, hz0, hz1, HZ, HA, HB⟩ := hrel
    cases gk with
    | zero =>
      have hzl : decide (z < (l0.length : Int)) = false := decide_eq_false (by have := HZ.out; omega)
      have HE : Aside0 (m = r) := ⟨by have h := HA.out; rw [List.drop_eq_nil_of_le (by have := HZ.out; omega)] at h; exact h⟩
      obtain rfl := HE.out
      go_wp2
      go_ret
      exact ⟨rfl, HB.out⟩
    | succ q1 =>
      have hzl : z < (l0.length : Int) := by have := HZ.out; omega
      have hzd : decide (z < (l0.length : Int)) = true := decide_eq_true hzl
      obtain ⟨ad1, ea1, hx1⟩ := Kd.at_int HR0.out z hz0 hzl
      cases ea1
      have hx1 : wr.cell? (ad0.add z.toNat) = some (.int .i64 (rd l0 z)) := by
        obtain ⟨nd, hnd⟩ := HB.out
        rw [hnd]; exact hx1
      have HD : Aside0 (l0.drop z.toNat = rd l0 z :: l0.drop (z + 1).toNat) := ⟨by
        rw [show (z + 1).toNat = z.toNat + 1 by omega, List.drop_eq_getElem_cons (by omega)]
        simp [rd, List.getD_eq_getElem?_getD, show z.toNat < l0.length by omega]⟩
      have p1 := eq_true hz0
      have p2 := eq_true hzl
      obtain ⟨mr, hmr⟩ : ∃ k, mx m (rd l0 z) = k := ⟨_, rfl⟩
      have hmr' : (if m < (rd l0 z) then (rd l0 z) else m) = mr := hmr
      go_wp2
      go_roundg q1
      case measure => omega
      case rel =>
        refine ⟨z + 1, mr, by go_num, rfl, by omega, by have := HZ.out; omega, ⟨by have := HZ.out; omega⟩, ⟨?_⟩, HB⟩
        have h := HA.out
        rw [HD.out, List.foldl_cons, hmr] at h
        exact h
end Go.Proofs.Ytonbplflmdpikaa.X
