import Derived.Test.YtglffceopijogaaDoorZBXx0
import Derived.Test.YtglffceopijogaaDoorZBXx51
namespace Go.Proofs.YtglffceopijogaaDoor.X
open Go.RowKit Go.Proofs.YtglffceopijogaaDoorW.PrintWords Go.Proofs.YtglffceopijogaaDoorW.PrintLast Go.Proofs.YtglffceopijogaaDoorW.PrintMore
attribute [local go_sem] max2_int min2_int max_two min_two max_three min_three max_four min_four   -- for this text's walks alone
open Go.Proofs.YtglffceopijogaaDoorW.HandWords
set_option linter.unusedVariables false
set_option linter.unusedSimpArgs false
def redlineref03_trail.l0 : Nat → ByteArray → Option (ByteArray)
  | 0, _ => none
  | k + 1, x0 => if (x0.size : Int) > 0 then (if 0 ≤ (wrap64 ((x0.size : Int) - 1)) then (if (wrap64 ((x0.size : Int) - 1)) < (x0.size : Int) then ((redlineref03_white.f (bt x0 (wrap64 ((x0.size : Int) - 1)))).bind fun t138 => (if t138 = true then (if (wrap64 ((x0.size : Int) - 1)) ≤ (x0.size : Int) then (redlineref03_trail.l0 k (x0.extract 0 ((wrap64 ((x0.size : Int) - 1)) : Int).toNat)) else (none)) else (some x0))) else (none)) else (none)) else (some x0)
def redlineref03_trail.f (k : Nat) (a0 : ByteArray) : Option (ByteArray) := redlineref03_trail.l0 k a0
set_option maxHeartbeats 8000000 in
set_option maxRecDepth 100000 in
theorem redlineref03_trail.calls (k : Nat) (a0 : ByteArray) (r : ByteArray) (w : World) (h : redlineref03_trail.f k a0 = some r) :
    Calls Tryd.prog 46 #[.string a0] w fun e w' => e = .returned (.string r) ∧ Drawn0 w w' := by
  have H : (redlineref03_trail.l0 k a0) = some r := h
  clear h
  have H' := Aside0.mk H
  clear H
  go_enter Tryd.func46, Tryd.ntmps46
  go_wp2
  go_loopg [0] k (fun kq v0 w' => ∃ (x0_1 : ByteArray), v0 = .string x0_1 ∧ Aside0 (redlineref03_trail.l0 kq x0_1 = some r) ∧ Aside0 (kq ≤ k) ∧ Drawn0 w w')
  case atStart => exact ⟨(a0), (by first | rfl | (simp; done) | (simp [*]; done)), H', ⟨Nat.le_refl _⟩, by repeat (first | exact Drawn0.refl _ | apply Drawn0.step)⟩
  case round =>
   clear H'
   obtain ⟨x0_1, rfl, HA, HK1, ⟨m1, rfl⟩⟩ := hrel
   cases gk with
   | zero => exact absurd HA.out (by simp [redlineref03_trail.l0])
   | succ k1 =>
    have H := HA.out
    clear HA
    simp only [redlineref03_trail.l0] at H
    by_cases c2 : (x0_1.size : Int) > 0
    ·rw [if_pos c2] at H
     have c2b0 : decide (0 < (x0_1.size : Int)) = true := decide_eq_true c2
     have c2b1 : decide (0 < x0_1.size) = true := decide_eq_true (by omega)
     clear c2
     obtain ⟨ji3, hji3⟩ : ∃ j_ : Int, (wrap64 ((x0_1.size : Int) - 1)) = j_ := ⟨_, rfl⟩
     replace H : (if 0 ≤ (ji3) then (if (ji3) < (x0_1.size : Int) then ((redlineref03_white.f (bt x0_1 (ji3))).bind fun t138 => (if t138 = true then (if (ji3) ≤ (x0_1.size : Int) then (redlineref03_trail.l0 k1 (x0_1.extract 0 ((ji3) : Int).toNat)) else (none)) else (some x0_1))) else (none)) else (none)) = some r := by first | (rw [hji3] at H; exact H) | (simp only [hji3] at H ⊢; exact H)
     have hji3w : (IntKind.i64.wrap ((x0_1.size : Int) - 1)) = ji3 := (i64_w _).trans hji3
     by_cases c4 : 0 ≤ (ji3)
     ·rw [if_pos c4] at H
      have c4b0 : decide (0 ≤ (ji3)) = true := decide_eq_true c4
      clear c4
      by_cases c5 : (ji3) < (x0_1.size : Int)
      ·rw [if_pos c5] at H
       have c5b0 : decide ((ji3) < (x0_1.size : Int)) = true := decide_eq_true c5
       clear c5
       replace H := Option.bind_eq_some_iff.mp H
       obtain ⟨t138, A70, H⟩ := H
       replace H : (if t138 = true then (if (ji3) ≤ (x0_1.size : Int) then (redlineref03_trail.l0 k1 (x0_1.extract 0 ((ji3) : Int).toNat)) else (none)) else (some x0_1)) = some r := H
       have A7 := Aside0.mk A70
       clear A70
       by_cases c8 : t138 = true
       ·subst c8
        have H1 : (if (ji3) ≤ (x0_1.size : Int) then (redlineref03_trail.l0 k1 (x0_1.extract 0 ((ji3) : Int).toNat)) else (none)) = some r := by rw [if_pos rfl] at H; exact H
        clear H
        have H := H1
        clear H1
        have c9b0 := eq_true (of_decide_eq_true (by first | (with_reducible assumption) | assumption) : 0 ≤ (ji3))
        by_cases c10 : (ji3) ≤ (x0_1.size : Int)
        ·rw [if_pos c10] at H
         have c10b0 := eq_true c10
         have c10b1 : decide ((ji3) ≤ (x0_1.size : Int)) = true := decide_eq_true c10
         clear c10
         have H' := Aside0.mk H
         clear H
         have p6 : 0 ≤ ((ji3) : Int) := of_decide_eq_true (by first | (with_reducible assumption) | assumption)
         have q6 : (ji3) < (x0_1.size : Int) := of_decide_eq_true (by first | (with_reducible assumption) | assumption)
         have hx6 := bt_at x0_1 (ji3)
         replace p6 := eq_true p6
         replace q6 := eq_true q6
         go_wp2_with (first | (go_at_call 57; (with_reducible refine (redlineref03_white.calls (bt x0_1 (ji3)) true _ A7.out).mono ?_); rintro e w' ⟨rfl, ⟨nd, rfl⟩⟩))
         go_roundg k1
         case measure => have := HK1.out; omega
         case rel => exact ⟨(x0_1.extract 0 ((ji3) : Int).toNat), (by first | rfl | (simp; done) | (simp only [← hji3] <;> (first | rfl | simp)) | (simp [*]; done)), H', ⟨by have := HK1.out; omega⟩, by repeat (first | exact Drawn0.refl _ | apply Drawn0.step)⟩
        ·rw [if_neg c10] at H
         exact absurd H (by simp)
       ·replace c8 := Bool.eq_false_iff.mpr c8
        subst c8
        have H1 : (some x0_1) = some r := by rw [if_neg (show ¬ (false = true) by decide)] at H; exact H
        clear H
        have H := H1
        clear H1
        obtain rfl := Option.some.inj H
        have p6 : 0 ≤ ((ji3) : Int) := of_decide_eq_true (by first | (with_reducible assumption) | assumption)
        have q6 : (ji3) < (x0_1.size : Int) := of_decide_eq_true (by first | (with_reducible assumption) | assumption)
        have hx6 := bt_at x0_1 (ji3)
        replace p6 := eq_true p6
        replace q6 := eq_true q6
        go_wp2_with (first | (go_at_call 57; (with_reducible refine (redlineref03_white.calls (bt x0_1 (ji3)) false _ A7.out).mono ?_); rintro e w' ⟨rfl, ⟨nd, rfl⟩⟩))
        go_ret
        exact ⟨by first | rfl | (simp; done) | (simp only [← hji3] <;> (first | rfl | simp)) | (simp [*]; done), by repeat (first | exact Drawn0.refl _ | apply Drawn0.step)⟩
      ·rw [if_neg c5] at H
       exact absurd H (by simp)
     ·rw [if_neg c4] at H
      exact absurd H (by simp)
    ·rw [if_neg c2] at H
     have c2b0 : decide (0 < (x0_1.size : Int)) = false := decide_eq_false c2
     have c2b1 : decide (0 < x0_1.size) = false := decide_eq_false (by omega)
     clear c2
     obtain rfl := Option.some.inj H
     go_wp2
     go_ret
     exact ⟨by first | rfl | (simp; done) | (simp [*]; done), by repeat (first | exact Drawn0.refl _ | apply Drawn0.step)⟩
end Go.Proofs.YtglffceopijogaaDoor.X
