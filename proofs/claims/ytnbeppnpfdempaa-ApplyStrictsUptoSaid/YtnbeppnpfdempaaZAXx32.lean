import Derived.Test.YtnbeppnpfdempaaZAXx0
import Derived.Lib.Strings
import Derived.Lib.Slices
import Derived.Lib.Walk
import Derived.Lib.Bytealg
namespace Go.Proofs.Ytnbeppnpfdempaa.X
open Go.RowKit Go.Proofs.YtnbeppnpfdempaaW.PrintWords Go.Proofs.YtnbeppnpfdempaaW.PrintLast Go.Proofs.YtnbeppnpfdempaaW.PrintMore
attribute [local go_sem] max2_int min2_int max_two min_two max_three min_three max_four min_four   -- for this text's walks alone
open Go.Proofs.YtnbeppnpfdempaaW.HandWords
set_option linter.unusedVariables false
set_option linter.unusedSimpArgs false
def strings_Index.f (a0 a1 : ByteArray) : Option Int := if a1 = ⟨#[10]⟩ then some (Lib.indexByte a0.data.toList ((10 : Int).toNat.toUInt8)) else none
set_option maxHeartbeats 1000000 in
set_option maxRecDepth 100000 in
theorem si_IndexByte.same (s : ByteArray) (c : Int) (w : World) : Calls Try.prog 65 #[.string s, .int .u8 c] w fun e w' => e = .returned (.int .i64 (Lib.indexByte s.data.toList c.toNat.toUInt8)) ∧ w' = w := by
  go_enter Try.func65, Try.ntmps65
  go_wp2
  rw [run_callFunc_extern Try.func74 (by kernel_rfl) (by kernel_rfl) (by kernel_rfl) (e := Extern.BytealgIndexByte.indexByte) (by kernel_rfl), Lib.run_indexByteString]
  simp only [Result.andThen]
  rw [Oper.upon_value]
  go_wp2
  go_ret
  exact ⟨rfl, rfl⟩
set_option maxHeartbeats 1000000 in
set_option maxRecDepth 100000 in
theorem si_Index.same (s : ByteArray) (w : World) : Calls Try.prog 57 #[.string s, .string ⟨#[10]⟩] w fun e w' => e = .returned (.int .i64 (Lib.indexByte s.data.toList ((10 : Int).toNat.toUInt8))) ∧ w' = w := by
  by_cases hs : s.data.toList = [10]
  · obtain rfl : s = ⟨#[10]⟩ := by cases s with | mk d => simp only at hs; rw [← Array.toArray_toList (xs := d), hs]
    go_enter Try.func57, Try.ntmps57
    go_wp2
    go_ret
    exact ⟨by rfl, rfl⟩
  · have h0 : (([10] : List UInt8) == s.toList) = false := beq_eq_false_iff_ne.mpr (fun e => hs (by rw [← ByteArray.toList_eq, ← e]))
    go_enter Try.func57, Try.ntmps57
    go_wp2_with (go_at_call 65; refine (si_IndexByte.same _ _ _).mono ?_; rintro e w' ⟨rfl, rfl⟩)
    go_ret
    exact ⟨rfl, rfl⟩
set_option maxHeartbeats 1000000 in
theorem strings_Index.same (s : ByteArray) (w : World) : Calls Try.prog 47 #[.string s, .string ⟨#[10]⟩] w fun e w' => e = .returned (.int .i64 (Lib.indexByte s.data.toList ((10 : Int).toNat.toUInt8))) ∧ w' = w := by
  go_enter Try.func47, Try.ntmps47
  go_wp2_with (go_at_call 57; refine (si_Index.same _ _).mono ?_; rintro e w' ⟨rfl, rfl⟩)
  go_ret
  exact ⟨rfl, rfl⟩
theorem strings_Index.calls (a0 a1 : ByteArray) (r : Int) (w : World) (h : strings_Index.f a0 a1 = some r) :
    Calls Try.prog 47 #[.string a0, .string a1] w fun e w' => e = .returned (.int .i64 r) ∧ Drawn0 w w' := by
  unfold strings_Index.f at h
  by_cases hc : a1 = ⟨#[10]⟩
  · rw [if_pos hc] at h
    cases h
    subst hc
    exact (strings_Index.same a0 w).mono fun e w' ⟨h1, h2⟩ => ⟨h1, ⟨⟨0, h2⟩⟩⟩
  · rw [if_neg hc] at h; cases h
end Go.Proofs.Ytnbeppnpfdempaa.X
