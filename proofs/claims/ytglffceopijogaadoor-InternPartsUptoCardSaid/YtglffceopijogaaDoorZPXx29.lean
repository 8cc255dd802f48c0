import Derived.Test.YtglffceopijogaaDoorZPXx0
import Derived.Test.YtglffceopijogaaDoorZPXx23
import Derived.Test.YtglffceopijogaaDoorZPCa
import Derived.Test.YtglffceopijogaaDoorZPHs
import Derived.Lib.OthersKept
import Derived.Lib.Strings
namespace Go.Proofs.YtglffceopijogaaDoor.X
open Go.RowKit Go.Proofs.YtglffceopijogaaDoorW.PrintWords Go.Proofs.YtglffceopijogaaDoorW.PrintLast Go.Proofs.YtglffceopijogaaDoorW.PrintMore
attribute [local go_sem] max2_int min2_int max_two min_two max_three min_three max_four min_four   -- for this text's walks alone
open Go.Proofs.YtglffceopijogaaDoorW.HandWords
set_option linter.unusedVariables false
set_option linter.unusedSimpArgs false
namespace Cw
abbrev sp : ByteArray := ⟨#[32, 9, 11, 12, 13]⟩
theorem sp_none (c : UInt8) (h : 128 ≤ c.toNat) (l : List UInt8) (hl : ∀ b ∈ l, b.toNat < 128) : Lib.indexByte l c = -1 := by
  induction l with
  | nil => rfl
  | cons b l ih =>
    have hb := hl b (List.mem_cons_self ..)
    have hne : ¬ (b == c) = true := fun e => by
      have := beq_iff_eq.1 e
      subst this
      omega
    have i2 := ih (fun x hx => hl x (List.mem_cons_of_mem _ hx))
    rw [Lib.indexByte, if_neg hne, i2]
    rfl
theorem sp_from (i : Nat) : ∀ b ∈ (sp.extract i 5).data.toList, b.toNat < 128 := by
  intro b hb
  have h : b ∈ sp.data.toList := by
    have e := Lib.extract_toList sp i 5
    rw [Lib.toList_data] at e
    rw [e] at hb
    exact List.mem_of_mem_drop (List.mem_of_mem_take hb)
  have h2 : ∀ b ∈ sp.data.toList, b.toNat < 128 := by decide
  exact h2 b h
theorem sp_dec : ∀ pos, pos < 5 → ∃ R : Nat, (R : Int) < 128 ∧ ∀ (P : Program) (w : World) (k : Nat) (ty : TypeId), w.heap[k]? = some (.stringIter sp pos) → (Instr.next (.pointer (some ⟨k, 0, none⟩)) true ty).run P w = .ok (.tuple #[.bool true, .int .i64 pos, .int .i32 (R : Int)]) (w.iterAt k sp (pos + 1)) := by
  intro pos hp
  have h5 : sp.size = 5 := rfl
  have ha : (sp[pos]'(by omega)).toNat < 128 := by
    have h2 : ∀ b ∈ sp.data.toList, b.toNat < 128 := by decide
    exact h2 _ (Array.mem_toList_iff.2 (Array.getElem_mem (show pos < sp.data.size from by have : sp.data.size = 5 := rfl
                                                                                           omega)))
  refine ⟨(sp[pos]'(by omega)).toNat, by omega, fun P w k ty hk => ?_⟩
  exact Lib.run_next_ascii_at w k sp pos ty hk (by omega) ha
set_option maxHeartbeats 4000000 in
set_option maxRecDepth 100000 in
theorem index_far (x : Int) (w : World) (h0 : 128 ≤ x) (h1 : x ≤ 1114111) :
    Calls Tryd.prog 71 #[.string sp, .int .i32 x] w fun e w' => e = .returned (.int .i64 (-1)) ∧ Below w.heap.size w w' := by
  have HB := Aside0.mk (Below.refl w.heap.size w)
  have a1 : decide (0 ≤ x) = true := decide_eq_true (by omega)
  have a2 : decide (x < 128) = false := decide_eq_false (by omega)
  by_cases hr : x = 65533
  · subst hr
    go_enter Tryd.func71, Tryd.ntmps71
    go_wp2
    go_loopg [] 5 (fun q w' => ∃ pos : Nat, pos + q = 5 ∧ w'.heap[w.heap.size]? = some (.stringIter sp pos) ∧ Aside0 (Below w.heap.size w w'))
    case atStart => exact ⟨0, rfl, World.iter_heap w sp 0, ⟨HB.out.alloc (Nat.le_refl _) _⟩⟩
    case round =>
      obtain ⟨pos, hp, hk, HB2⟩ := hrel
      cases gk with
      | zero =>
        obtain rfl : pos = 5 := by omega
        have hnx : ∀ ty, (Instr.next (.pointer (some ⟨w.heap.size, 0, none⟩)) true ty).run Tryd.prog wr = _ := fun ty => Lib.run_next_end_at wr w.heap.size sp 5 ty hk (by decide)
        go_wp2
        go_ret
        exact ⟨rfl, HB2.out⟩
      | succ q =>
        obtain ⟨R, hR, hn⟩ := sp_dec pos (by omega)
        have hnx : ∀ ty, (Instr.next (.pointer (some ⟨w.heap.size, 0, none⟩)) true ty).run Tryd.prog wr = _ := fun ty => hn _ wr w.heap.size ty hk
        have hne : decide ((R : Int) = 65533) = false := decide_eq_false (by omega)
        have hne2 : ((R : Int) = 65533) = False := eq_false (by omega)
        have hne3 : ((R : Int) == 65533) = false := beq_eq_false_iff_ne.mpr (by omega)
        have n1_ : Aside0 (Below w.heap.size w (wr.iterAt w.heap.size sp (pos + 1))) := ⟨Lib.below_iterAt HB2.out (k := w.heap.size) (Nat.le_refl _) sp (pos + 1)⟩
        have hk2 := Lib.iterAt_heap wr w.heap.size sp pos (pos + 1) hk
        clear HB2
        go_wp2
        go_roundg q
        case measure => omega
        case rel => exact ⟨pos + 1, by omega, hk2, n1_⟩
  have r1 : decide (x = 65533) = false := decide_eq_false hr
  have r2 : (x = 65533) = False := eq_false hr
  have r3 : (x == 65533) = false := beq_eq_false_iff_ne.mpr hr
  have a1b : (0 ≤ x) = True := eq_true (by omega)
  have a2b : (x < 128) = False := eq_false (by omega)
  by_cases hv : Utf8.valid x = true
  case neg =>
    have hv2 : 55296 ≤ x ∧ x ≤ 57343 := by
      unfold Utf8.valid at hv
      simp only [Bool.or_eq_true, Bool.and_eq_true, decide_eq_true_eq] at hv
      omega
    have b1 : decide (x < 55296) = false := decide_eq_false (by omega)
    have b2 : decide (57343 < x) = false := decide_eq_false (by omega)
    have b1b : (x < 55296) = False := eq_false (by omega)
    have b2b : (57343 < x) = False := eq_false (by omega)
    go_enter Tryd.func71, Tryd.ntmps71
    go_wp2
    go_ret
    exact ⟨rfl, HB.out⟩
  obtain ⟨e1, e2, e3⟩ := encode_facts x hv h0
  obtain ⟨E, hE⟩ : ∃ E, Utf8.encode x = E := ⟨_, rfl⟩
  rw [hE] at e1 e2 e3
  have hlt : (x < 55296) ∨ (¬ x < 55296 ∧ 57343 < x) := by
    unfold Utf8.valid at hv
    simp only [Bool.or_eq_true, Bool.and_eq_true, decide_eq_true_eq] at hv
    omega
  have hmx : decide (x ≤ 1114111) = true := decide_eq_true h1
  have hmxb : (x ≤ 1114111) = True := eq_true h1
  have hbE : 128 ≤ bt E ((E.size - 1 : Nat) : Int) := by
    have h := bt_at E ((E.size - 1 : Nat) : Int) (by rw [Int.toNat_natCast]; omega)
    have h2 := e3 (by omega)
    rw [← h]
    exact_mod_cast h2
  have HBE := Aside0.mk hbE
  have HSZ : E.size = 2 ∨ E.size = 3 ∨ E.size = 4 := by omega
  clear e1 e2 e3 hbE hv
  have main : ∀ n : Nat, (n = 1 ∨ n = 2 ∨ n = 3) → E.size = n + 1 → Calls Tryd.prog 71 #[.string sp, .int .i32 x] w fun e w' => e = .returned (.int .i64 (-1)) ∧ Below w.heap.size w w' := by
    intro n hn hs
    have hs2 : (E.size : Int) = (n : Int) + 1 := by omega
    rw [hs, Nat.add_sub_cancel] at HBE
    rcases hlt with hl | ⟨hl, hl2⟩
    · have b1 : decide (x < 55296) = true := decide_eq_true hl
      have b1b : (x < 55296) = True := eq_true hl
      rcases hn with rfl | rfl | rfl
      · go_enter Tryd.func71, Tryd.ntmps71
        go_wp2
        refine wp_scope_straight ?_
        go_wp2
        go_loopg [9] 1 (fun q v9 w' => v9 = .int .i64 1 ∧ Aside0 (Below w.heap.size w w'))
        case atStart => exact ⟨rfl, HB⟩
        case round =>
          obtain ⟨rfl, HB2⟩ := hrel
          obtain ⟨b, hb⟩ : ∃ b, bt E 1 = b := ⟨_, rfl⟩
          have hb2 : 128 ≤ b := by rw [← hb]; exact HBE.out
          have hx : ∀ h : 1 < E.size, ((E[1]'h).toNat : Int) = b := fun h => (bt_at E 1 h).trans hb
          have hx2 : ∀ h : 1 < sp.size, ((sp[1]'h).toNat : Int) = 9 := fun h => rfl
          have hb3 : b < 256 := by
            rw [← hx (by omega)]
            have := (E[1]'(by omega)).toNat_lt
            omega
          have hix : Lib.indexByte (sp.extract 2 5).data.toList b.toNat.toUInt8 = -1 := sp_none _ (by
            have h : b.toNat.toUInt8.toNat = b.toNat := by simp; omega
            omega) _ (sp_from 2)
          have HIX := Aside0.mk hix
          have z1 : ((2 : Int) ≤ (sp.size : Int)) = True := eq_true (by decide)
          have z2 : ((0 : Int) ≤ 2) = True := eq_true (by decide)
          have z3 : decide ((2 : Int) ≤ (sp.size : Int)) = true := decide_eq_true (by decide)
          have z4 : IntKind.i64.wrap 2 = 2 := by decide
          clear hb hix
          have q1 : ((1 : Int) < (E.size : Int)) = True := eq_true (by omega)
          have ne1 : ((9 : Int) = b) = False := eq_false (by omega)
          have ne2 : ((9 : Int) == b) = false := beq_eq_false_iff_ne.mpr (by omega)
          have ne3 : ((9 : Int) != b) = true := bne_iff_ne.mpr (by omega)
          go_wp2
          refine wp_scope_straight ?_
          go_wp2
          go_quiet (fail)
          have HB3 := Aside0.mk (pw_below_drewN HB2.out nq)
          clear HB2
          generalize World.drewN _ nq = w3 at HB3 ⊢
          go_wp2
          go_quiet (first | (go_at_call 74; refine Calls.quiet_of ((strings_IndexByte.calls (sp.extract 2 5) b (-1) _ (congrArg some HIX.out)).mono (fun e' w' hh' => ⟨hh'.1, hh'.2.1⟩))))
          go_wp2
          show bodyPost Tryd.prog Tryd.f71 (fun e w' => e = .returned (.int .i64 (-1)) ∧ Below w.heap.size w w') Exit.ret _ _
          go_ret
          exact ⟨rfl, pw_below_drewN HB3.out _⟩
      · go_enter Tryd.func71, Tryd.ntmps71
        go_wp2
        refine wp_scope_straight ?_
        go_wp2
        go_loopg [9] 1 (fun q v9 w' => v9 = .int .i64 2 ∧ Aside0 (Below w.heap.size w w'))
        case atStart => exact ⟨rfl, HB⟩
        case round =>
          obtain ⟨rfl, HB2⟩ := hrel
          obtain ⟨b, hb⟩ : ∃ b, bt E 2 = b := ⟨_, rfl⟩
          have hb2 : 128 ≤ b := by rw [← hb]; exact HBE.out
          have hx : ∀ h : 2 < E.size, ((E[2]'h).toNat : Int) = b := fun h => (bt_at E 2 h).trans hb
          have hx2 : ∀ h : 2 < sp.size, ((sp[2]'h).toNat : Int) = 11 := fun h => rfl
          have hb3 : b < 256 := by
            rw [← hx (by omega)]
            have := (E[2]'(by omega)).toNat_lt
            omega
          have hix : Lib.indexByte (sp.extract 3 5).data.toList b.toNat.toUInt8 = -1 := sp_none _ (by
            have h : b.toNat.toUInt8.toNat = b.toNat := by simp; omega
            omega) _ (sp_from 3)
          have HIX := Aside0.mk hix
          have z1 : ((3 : Int) ≤ (sp.size : Int)) = True := eq_true (by decide)
          have z2 : ((0 : Int) ≤ 3) = True := eq_true (by decide)
          have z3 : decide ((3 : Int) ≤ (sp.size : Int)) = true := decide_eq_true (by decide)
          have z4 : IntKind.i64.wrap 3 = 3 := by decide
          clear hb hix
          have q1 : ((2 : Int) < (E.size : Int)) = True := eq_true (by omega)
          have ne1 : ((11 : Int) = b) = False := eq_false (by omega)
          have ne2 : ((11 : Int) == b) = false := beq_eq_false_iff_ne.mpr (by omega)
          have ne3 : ((11 : Int) != b) = true := bne_iff_ne.mpr (by omega)
          go_wp2
          refine wp_scope_straight ?_
          go_wp2
          go_quiet (fail)
          have HB3 := Aside0.mk (pw_below_drewN HB2.out nq)
          clear HB2
          generalize World.drewN _ nq = w3 at HB3 ⊢
          go_wp2
          go_quiet (first | (go_at_call 74; refine Calls.quiet_of ((strings_IndexByte.calls (sp.extract 3 5) b (-1) _ (congrArg some HIX.out)).mono (fun e' w' hh' => ⟨hh'.1, hh'.2.1⟩))))
          go_wp2
          show bodyPost Tryd.prog Tryd.f71 (fun e w' => e = .returned (.int .i64 (-1)) ∧ Below w.heap.size w w') Exit.ret _ _
          go_ret
          exact ⟨rfl, pw_below_drewN HB3.out _⟩
      · go_enter Tryd.func71, Tryd.ntmps71
        go_wp2
        refine wp_scope_straight ?_
        go_wp2
        go_loopg [9] 1 (fun q v9 w' => v9 = .int .i64 3 ∧ Aside0 (Below w.heap.size w w'))
        case atStart => exact ⟨rfl, HB⟩
        case round =>
          obtain ⟨rfl, HB2⟩ := hrel
          obtain ⟨b, hb⟩ : ∃ b, bt E 3 = b := ⟨_, rfl⟩
          have hb2 : 128 ≤ b := by rw [← hb]; exact HBE.out
          have hx : ∀ h : 3 < E.size, ((E[3]'h).toNat : Int) = b := fun h => (bt_at E 3 h).trans hb
          have hx2 : ∀ h : 3 < sp.size, ((sp[3]'h).toNat : Int) = 12 := fun h => rfl
          have hb3 : b < 256 := by
            rw [← hx (by omega)]
            have := (E[3]'(by omega)).toNat_lt
            omega
          have hix : Lib.indexByte (sp.extract 4 5).data.toList b.toNat.toUInt8 = -1 := sp_none _ (by
            have h : b.toNat.toUInt8.toNat = b.toNat := by simp; omega
            omega) _ (sp_from 4)
          have HIX := Aside0.mk hix
          have z1 : ((4 : Int) ≤ (sp.size : Int)) = True := eq_true (by decide)
          have z2 : ((0 : Int) ≤ 4) = True := eq_true (by decide)
          have z3 : decide ((4 : Int) ≤ (sp.size : Int)) = true := decide_eq_true (by decide)
          have z4 : IntKind.i64.wrap 4 = 4 := by decide
          clear hb hix
          have q1 : ((3 : Int) < (E.size : Int)) = True := eq_true (by omega)
          have ne1 : ((12 : Int) = b) = False := eq_false (by omega)
          have ne2 : ((12 : Int) == b) = false := beq_eq_false_iff_ne.mpr (by omega)
          have ne3 : ((12 : Int) != b) = true := bne_iff_ne.mpr (by omega)
          go_wp2
          refine wp_scope_straight ?_
          go_wp2
          go_quiet (fail)
          have HB3 := Aside0.mk (pw_below_drewN HB2.out nq)
          clear HB2
          generalize World.drewN _ nq = w3 at HB3 ⊢
          go_wp2
          go_quiet (first | (go_at_call 74; refine Calls.quiet_of ((strings_IndexByte.calls (sp.extract 4 5) b (-1) _ (congrArg some HIX.out)).mono (fun e' w' hh' => ⟨hh'.1, hh'.2.1⟩))))
          go_wp2
          show bodyPost Tryd.prog Tryd.f71 (fun e w' => e = .returned (.int .i64 (-1)) ∧ Below w.heap.size w w') Exit.ret _ _
          go_ret
          exact ⟨rfl, pw_below_drewN HB3.out _⟩
    · have b1 : decide (x < 55296) = false := decide_eq_false hl
      have b1b : (x < 55296) = False := eq_false hl
      have b2 : decide (57343 < x) = true := decide_eq_true hl2
      have b2b : (57343 < x) = True := eq_true hl2
      rcases hn with rfl | rfl | rfl
      · go_enter Tryd.func71, Tryd.ntmps71
        go_wp2
        refine wp_scope_straight ?_
        go_wp2
        go_loopg [9] 1 (fun q v9 w' => v9 = .int .i64 1 ∧ Aside0 (Below w.heap.size w w'))
        case atStart => exact ⟨rfl, HB⟩
        case round =>
          obtain ⟨rfl, HB2⟩ := hrel
          obtain ⟨b, hb⟩ : ∃ b, bt E 1 = b := ⟨_, rfl⟩
          have hb2 : 128 ≤ b := by rw [← hb]; exact HBE.out
          have hx : ∀ h : 1 < E.size, ((E[1]'h).toNat : Int) = b := fun h => (bt_at E 1 h).trans hb
          have hx2 : ∀ h : 1 < sp.size, ((sp[1]'h).toNat : Int) = 9 := fun h => rfl
          have hb3 : b < 256 := by
            rw [← hx (by omega)]
            have := (E[1]'(by omega)).toNat_lt
            omega
          have hix : Lib.indexByte (sp.extract 2 5).data.toList b.toNat.toUInt8 = -1 := sp_none _ (by
            have h : b.toNat.toUInt8.toNat = b.toNat := by simp; omega
            omega) _ (sp_from 2)
          have HIX := Aside0.mk hix
          have z1 : ((2 : Int) ≤ (sp.size : Int)) = True := eq_true (by decide)
          have z2 : ((0 : Int) ≤ 2) = True := eq_true (by decide)
          have z3 : decide ((2 : Int) ≤ (sp.size : Int)) = true := decide_eq_true (by decide)
          have z4 : IntKind.i64.wrap 2 = 2 := by decide
          clear hb hix
          have q1 : ((1 : Int) < (E.size : Int)) = True := eq_true (by omega)
          have ne1 : ((9 : Int) = b) = False := eq_false (by omega)
          have ne2 : ((9 : Int) == b) = false := beq_eq_false_iff_ne.mpr (by omega)
          have ne3 : ((9 : Int) != b) = true := bne_iff_ne.mpr (by omega)
          go_wp2
          refine wp_scope_straight ?_
          go_wp2
          go_quiet (fail)
          have HB3 := Aside0.mk (pw_below_drewN HB2.out nq)
          clear HB2
          generalize World.drewN _ nq = w3 at HB3 ⊢
          go_wp2
          go_quiet (first | (go_at_call 74; refine Calls.quiet_of ((strings_IndexByte.calls (sp.extract 2 5) b (-1) _ (congrArg some HIX.out)).mono (fun e' w' hh' => ⟨hh'.1, hh'.2.1⟩))))
          go_wp2
          show bodyPost Tryd.prog Tryd.f71 (fun e w' => e = .returned (.int .i64 (-1)) ∧ Below w.heap.size w w') Exit.ret _ _
          go_ret
          exact ⟨rfl, pw_below_drewN HB3.out _⟩
      · go_enter Tryd.func71, Tryd.ntmps71
        go_wp2
        refine wp_scope_straight ?_
        go_wp2
        go_loopg [9] 1 (fun q v9 w' => v9 = .int .i64 2 ∧ Aside0 (Below w.heap.size w w'))
        case atStart => exact ⟨rfl, HB⟩
        case round =>
          obtain ⟨rfl, HB2⟩ := hrel
          obtain ⟨b, hb⟩ : ∃ b, bt E 2 = b := ⟨_, rfl⟩
          have hb2 : 128 ≤ b := by rw [← hb]; exact HBE.out
          have hx : ∀ h : 2 < E.size, ((E[2]'h).toNat : Int) = b := fun h => (bt_at E 2 h).trans hb
          have hx2 : ∀ h : 2 < sp.size, ((sp[2]'h).toNat : Int) = 11 := fun h => rfl
          have hb3 : b < 256 := by
            rw [← hx (by omega)]
            have := (E[2]'(by omega)).toNat_lt
            omega
          have hix : Lib.indexByte (sp.extract 3 5).data.toList b.toNat.toUInt8 = -1 := sp_none _ (by
            have h : b.toNat.toUInt8.toNat = b.toNat := by simp; omega
            omega) _ (sp_from 3)
          have HIX := Aside0.mk hix
          have z1 : ((3 : Int) ≤ (sp.size : Int)) = True := eq_true (by decide)
          have z2 : ((0 : Int) ≤ 3) = True := eq_true (by decide)
          have z3 : decide ((3 : Int) ≤ (sp.size : Int)) = true := decide_eq_true (by decide)
          have z4 : IntKind.i64.wrap 3 = 3 := by decide
          clear hb hix
          have q1 : ((2 : Int) < (E.size : Int)) = True := eq_true (by omega)
          have ne1 : ((11 : Int) = b) = False := eq_false (by omega)
          have ne2 : ((11 : Int) == b) = false := beq_eq_false_iff_ne.mpr (by omega)
          have ne3 : ((11 : Int) != b) = true := bne_iff_ne.mpr (by omega)
          go_wp2
          refine wp_scope_straight ?_
          go_wp2
          go_quiet (fail)
          have HB3 := Aside0.mk (pw_below_drewN HB2.out nq)
          clear HB2
          generalize World.drewN _ nq = w3 at HB3 ⊢
          go_wp2
          go_quiet (first | (go_at_call 74; refine Calls.quiet_of ((strings_IndexByte.calls (sp.extract 3 5) b (-1) _ (congrArg some HIX.out)).mono (fun e' w' hh' => ⟨hh'.1, hh'.2.1⟩))))
          go_wp2
          show bodyPost Tryd.prog Tryd.f71 (fun e w' => e = .returned (.int .i64 (-1)) ∧ Below w.heap.size w w') Exit.ret _ _
          go_ret
          exact ⟨rfl, pw_below_drewN HB3.out _⟩
      · go_enter Tryd.func71, Tryd.ntmps71
        go_wp2
        refine wp_scope_straight ?_
        go_wp2
        go_loopg [9] 1 (fun q v9 w' => v9 = .int .i64 3 ∧ Aside0 (Below w.heap.size w w'))
        case atStart => exact ⟨rfl, HB⟩
        case round =>
          obtain ⟨rfl, HB2⟩ := hrel
          obtain ⟨b, hb⟩ : ∃ b, bt E 3 = b := ⟨_, rfl⟩
          have hb2 : 128 ≤ b := by rw [← hb]; exact HBE.out
          have hx : ∀ h : 3 < E.size, ((E[3]'h).toNat : Int) = b := fun h => (bt_at E 3 h).trans hb
          have hx2 : ∀ h : 3 < sp.size, ((sp[3]'h).toNat : Int) = 12 := fun h => rfl
          have hb3 : b < 256 := by
            rw [← hx (by omega)]
            have := (E[3]'(by omega)).toNat_lt
            omega
          have hix : Lib.indexByte (sp.extract 4 5).data.toList b.toNat.toUInt8 = -1 := sp_none _ (by
            have h : b.toNat.toUInt8.toNat = b.toNat := by simp; omega
            omega) _ (sp_from 4)
          have HIX := Aside0.mk hix
          have z1 : ((4 : Int) ≤ (sp.size : Int)) = True := eq_true (by decide)
          have z2 : ((0 : Int) ≤ 4) = True := eq_true (by decide)
          have z3 : decide ((4 : Int) ≤ (sp.size : Int)) = true := decide_eq_true (by decide)
          have z4 : IntKind.i64.wrap 4 = 4 := by decide
          clear hb hix
          have q1 : ((3 : Int) < (E.size : Int)) = True := eq_true (by omega)
          have ne1 : ((12 : Int) = b) = False := eq_false (by omega)
          have ne2 : ((12 : Int) == b) = false := beq_eq_false_iff_ne.mpr (by omega)
          have ne3 : ((12 : Int) != b) = true := bne_iff_ne.mpr (by omega)
          go_wp2
          refine wp_scope_straight ?_
          go_wp2
          go_quiet (fail)
          have HB3 := Aside0.mk (pw_below_drewN HB2.out nq)
          clear HB2
          generalize World.drewN _ nq = w3 at HB3 ⊢
          go_wp2
          go_quiet (first | (go_at_call 74; refine Calls.quiet_of ((strings_IndexByte.calls (sp.extract 4 5) b (-1) _ (congrArg some HIX.out)).mono (fun e' w' hh' => ⟨hh'.1, hh'.2.1⟩))))
          go_wp2
          show bodyPost Tryd.prog Tryd.f71 (fun e w' => e = .returned (.int .i64 (-1)) ∧ Below w.heap.size w w') Exit.ret _ _
          go_ret
          exact ⟨rfl, pw_below_drewN HB3.out _⟩
  rcases HSZ with h | h | h
  · exact main 1 (by omega) h
  · exact main 2 (by omega) h
  · exact main 3 (by omega) h
set_option maxHeartbeats 2000000 in
set_option maxRecDepth 100000 in
theorem white (x : Nat) (w : World) (hx : x ≤ 1114111) :
    Calls Tryd.prog 55 #[.int .i32 (x : Int)] w fun e w' => e = .returned (.bool (Ca.wh x)) ∧ Below w.heap.size w w' := by
  have HB := Aside0.mk (Below.refl w.heap.size w)
  by_cases h : x < 128
  · have hc : decide (0 ≤ Lib.indexByte sp.data.toList ((x : Int)).toNat.toUInt8) = Ca.wh x := by
      have H : ∀ x : Nat, x < 128 → decide (0 ≤ Lib.indexByte sp.data.toList x.toUInt8) = Ca.wh x := by decide
      rw [Int.toNat_natCast]
      exact H x h
    obtain ⟨z, hz⟩ : ∃ z : Int, (x : Int) = z := ⟨_, rfl⟩
    rw [hz] at hc ⊢
    have hz0 : 0 ≤ z := by omega
    have hz1 : z < 128 := by omega
    have HC := Aside0.mk hc
    go_enter Tryd.func55, Tryd.ntmps55
    go_wp2_with (go_at_call 65; refine (Tryd.strings_ContainsRune_ascii sp z _ hz0 hz1).mono ?_; rintro e w' ⟨rfl, rfl⟩; rw [HC.out])
    go_ret
    exact ⟨rfl, HB.out⟩
  · have hc : Ca.wh x = false := by
      unfold Ca.wh
      simp
      omega
    rw [hc]
    obtain ⟨z, hz⟩ : ∃ z : Int, (x : Int) = z := ⟨_, rfl⟩
    rw [hz]
    have hz0 : 128 ≤ z := by omega
    have hz1 : z ≤ 1114111 := by omega
    go_enter Tryd.func55, Tryd.ntmps55
    go_wp2_with (first | (go_at_call 71; refine (index_far z _ hz0 hz1).mono ?_; rintro e w' ⟨rfl, hb⟩; have n1_ := Aside0.mk (below_step HB.out hb); clear hb) | (go_at_call 65; go_in))
    go_ret
    exact ⟨rfl, n1_.out⟩
end Cw
def canon_white.f (a0 : Int) : Option Bool := if 0 ≤ a0 ∧ a0 ≤ 1114111 then some (Ca.wh a0.toNat) else none
end Go.Proofs.YtglffceopijogaaDoor.X
