import Derived.Test.YtnbeppnpfdempaaZAXx0
import Derived.Shelf.Abstract
import Derived.Deep.OwnRows
namespace Go.Proofs.Ytnbeppnpfdempaa.X
open Go.RowKit Go.Proofs.YtnbeppnpfdempaaW.PrintWords Go.Proofs.YtnbeppnpfdempaaW.PrintLast Go.Proofs.YtnbeppnpfdempaaW.PrintMore
attribute [local go_sem] max2_int min2_int max_two min_two max_three min_three max_four min_four   -- for this text's walks alone
open Go.Proofs.YtnbeppnpfdempaaW.HandWords
set_option linter.unusedVariables false
set_option linter.unusedSimpArgs false
def ixne : List S76 → Int → Int
  | [], _ => -1
  | m :: l, z => if m.f0 = 32 then ixne l (z + 1) else z
theorem hunks_Check_1.mark (sg : Int) (tx : ByteArray) (w : World) : Calls Try.prog 58 #[.agg #[.int .u8 sg, .string tx]] w fun e w' => e = .returned (.bool (sg != 32)) ∧ Below w.heap.size w w' := by
  go_enter Try.func58, Try.ntmps58
  go_wp2
  go_ret
  exact ⟨rfl, (Below.refl _ _).alloc (Nat.le_refl _) _⟩
set_option maxHeartbeats 2000000 in
set_option maxRecDepth 100000 in
theorem slices_IndexFunc_ne.calls (A0 : Option Addr) (c0 : Nat) (l0 : List S76) (w : World) (hr0 : Kd.C k76 w A0 l0.length l0) :
    Calls Try.prog 71 #[.slice A0 l0.length c0, .func (.func 58) #[] #[]] w fun e w' => e = .returned (.int .i64 (ixne l0 0)) ∧ Below w.heap.size w w' := by
  have hu46 := Try.underlying76
  have HR0 := Aside0.mk hr0
  have HLN := Aside0.mk (show l0.length ≤ 9223372036854775807 from hr0.2.1)
  clear hr0
  go_enter Try.func71, Try.ntmps71
  go_wp2
  go_loopg [5, 8] l0.length (fun q _ v8 w' => ∃ (z : Int), v8 = .int .i64 z ∧ 0 ≤ z ∧ z ≤ 9223372036854775807 ∧ Aside0 (z + (q : Int) = l0.length) ∧ Aside0 (ixne l0 0 = ixne (l0.drop z.toNat) z) ∧ Aside0 (Below w.heap.size w w'))
  case atStart => exact ⟨0, rfl, by omega, by omega, ⟨by omega⟩, ⟨by rw [show (0 : Int).toNat = 0 from rfl, List.drop_zero]⟩, ⟨Below.refl _ _⟩⟩
  case round =>
    obtain ⟨z, rfl, hz1, hz2, HZ, HH, HB⟩ := hrel
    cases gk with
    | zero =>
      have hzl : z = (l0.length : Int) := by have := HZ.out; omega
      subst hzl
      have hp : ((l0.length : Int) < (l0.length : Int)) = False := eq_false (Int.lt_irrefl _)
      have h := HH.out
      rw [Int.toNat_natCast, List.drop_length, ixne] at h
      have HE := Aside0.mk h
      clear h HH
      go_wp2
      go_ret
      exact ⟨by rw [HE.out]; rfl, HB.out⟩
    | succ q1 =>
      have hzl : decide (z < (l0.length : Int)) = true := decide_eq_true (by have := HZ.out; omega)
      have hz3 := of_decide_eq_true hzl
      obtain ⟨ad0, ea0, x0, x1⟩ := at_T76 (Kd.C_below HR0.out HB.out) z hz1 hz3
      cases ea0
      have p1 := eq_true hz1
      have p2 := eq_true hz3
      have hd : l0.drop z.toNat = rd_T76 l0 z :: l0.drop (z + 1).toNat := by
        rw [show (z + 1).toNat = z.toNat + 1 by omega, List.drop_eq_getElem_cons (by omega)]
        simp [rd_T76, List.getD_eq_getElem?_getD, show z.toNat < l0.length by omega]
      have hw : wrap64 (z + 1) = z + 1 := by have := HLN.out; unfold wrap64; omega
      obtain ⟨m, hm⟩ : ∃ m, rd_T76 l0 z = m := ⟨_, rfl⟩
      rw [hm] at hd x0 x1
      obtain ⟨sg, tx⟩ := m
      dsimp only at x0 x1
      have HD := Aside0.mk hd
      have HW := Aside0.mk hw
      clear hd hw hm
      by_cases hs : sg = 32
      · subst hs
        have HH2 : Aside0 (ixne l0 0 = ixne (l0.drop (z + 1).toNat) (z + 1)) := ⟨by have h := HH.out; rw [HD.out, ixne, if_pos rfl] at h; exact h⟩
        clear HH HD
        go_wp2_with (go_at_call 58; refine (hunks_Check_1.mark _ _ _).mono ?_; rintro e w' ⟨rfl, hb'⟩; have n1_ := Aside0.mk (below_step HB.out hb'); clear HB hb' x0 x1; have HB := n1_; clear n1_)
        go_roundg q1
        case measure => omega
        case rel => exact ⟨z + 1, by rw [HW.out], by omega, by have := HLN.out; omega, ⟨by have := HZ.out; omega⟩, HH2, HB⟩
      · have hq : (sg != 32) = true := by simp [hs]
        have HE : Aside0 (ixne l0 0 = z) := ⟨by have h := HH.out; rw [HD.out, ixne, if_neg hs] at h; exact h⟩
        clear HH HD
        go_wp2_with (go_at_call 58; refine (hunks_Check_1.mark _ _ _).mono ?_; rintro e w' ⟨rfl, hb'⟩; have n1_ := Aside0.mk (below_step HB.out hb'); clear HB hb' x0 x1; have HB := n1_; clear n1_)
        go_ret
        exact ⟨by rw [HE.out]; rfl, HB.out⟩
def api_Mark_61.f (l0 : List S76) (a1 : Int) : Option Bool := some (decide (ixne l0 0 ≥ 0))
theorem api_Mark_61.calls (A0 : Option Addr) (c0 : Nat) (l0 : List S76) (a1 : Int) (r : Bool) (w : World) (hr0 : Kd.C k76 w A0 l0.length l0) (hc0 : l0.length ≤ c0) (h : api_Mark_61.f l0 a1 = some r) :
    Calls Try.prog 61 #[.slice A0 l0.length c0, .func (.func 58) #[] #[]] w fun e w' => e = .returned (.bool r) ∧ Below w.heap.size w w' := by
  unfold api_Mark_61.f at h
  cases h
  have hcon := slices_IndexFunc_ne.calls A0 c0 l0 w hr0
  obtain ⟨r, hr⟩ : ∃ r, ixne l0 0 = r := ⟨_, rfl⟩
  rw [hr] at hcon ⊢
  clear hr
  go_enter Try.func61, Try.ntmps61
  go_wp2_with (go_at_call 71; refine hcon.mono ?_; rintro e w' ⟨rfl, hb'⟩)
  go_ret
  exact ⟨rfl, hb'⟩
end Go.Proofs.Ytnbeppnpfdempaa.X
