import Derived.Test.YtglffceopijogaaZSXx0
namespace Go.Proofs.Ytglffceopijogaa.X
open Go.RowKit Go.Proofs.YtglffceopijogaaW.PrintWords Go.Proofs.YtglffceopijogaaW.PrintLast Go.Proofs.YtglffceopijogaaW.PrintMore
attribute [local go_sem] max2_int min2_int max_two min_two max_three min_three max_four min_four   -- for this text's walks alone
open Go.Proofs.YtglffceopijogaaW.HandWords
set_option linter.unusedVariables false
set_option linter.unusedSimpArgs false
def redlineref21_said.f (a0 a1 a2 : ByteArray) : Option (ByteArray × Bool) := if a0.toList = ([108] : List UInt8) then some (a1, true) else if a0.toList = ([114] : List UInt8) then some (a2, true) else none
set_option maxHeartbeats 2000000 in
set_option maxRecDepth 100000 in
theorem redlineref21_said.calls (a0 a1 a2 : ByteArray) (r1 : ByteArray) (r2 : Bool) (w : World) (h : redlineref21_said.f a0 a1 a2 = some (r1, r2)) :
    Calls Try.prog 54 #[.string a0, .string a1, .string a2] w fun e w' => e = .returned (.tuple #[.string r1, .bool r2]) ∧ Drawn0 w w' := by
  unfold redlineref21_said.f at h
  by_cases c4 : a0.toList = ([108] : List UInt8)
  · rw [if_pos c4] at h
    have c4b0 : (a0.toList == ([108] : List UInt8)) = true := beq_iff_eq.mpr c4
    clear c4
    simp only [Option.some.injEq, Prod.mk.injEq] at h
    obtain ⟨rfl, rfl⟩ := h
    go_enter Try.func54, Try.ntmps54
    go_wp2
    go_ret2
    exact ⟨rfl, by repeat (first | exact Drawn0.refl _ | apply Drawn0.step)⟩
  · rw [if_neg c4] at h
    have c4b0 : (a0.toList == ([108] : List UInt8)) = false := beq_eq_false_iff_ne.mpr c4
    by_cases c5 : a0.toList = ([114] : List UInt8)
    · rw [if_pos c5] at h
      have c5b0 : (a0.toList == ([114] : List UInt8)) = true := beq_iff_eq.mpr c5
      clear c4 c5
      simp only [Option.some.injEq, Prod.mk.injEq] at h
      obtain ⟨rfl, rfl⟩ := h
      go_enter Try.func54, Try.ntmps54
      go_wp2
      go_ret2
      exact ⟨rfl, by repeat (first | exact Drawn0.refl _ | apply Drawn0.step)⟩
    · rw [if_neg c5] at h
      cases h
end Go.Proofs.Ytglffceopijogaa.X
