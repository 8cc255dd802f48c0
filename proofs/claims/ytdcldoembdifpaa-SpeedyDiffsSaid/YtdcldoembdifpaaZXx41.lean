-- printed by xprint.py, a program of this session's own over the kit's print
import Derived.Test.YtdcldoembdifpaaZXx0
import Derived.Test.YtdcldoembdifpaaZXx39
import Derived.Test.YtdcldoembdifpaaZXx40
import Derived.Laws.CopyOwn
import Derived.Deep.OwnRows
namespace Go.Proofs.Ytdcldoembdifpaa.X
open Go.RowKit Go.Proofs.YtdcldoembdifpaaW.PrintWords Go.Proofs.YtdcldoembdifpaaW.PrintLast Go.Proofs.YtdcldoembdifpaaW.PrintMore
attribute [local go_sem] max2_int min2_int max_two min_two max_three min_three max_four min_four   -- for this text's walks alone
open Go.Proofs.YtdcldoembdifpaaW.HandWords
set_option linter.unusedVariables false
set_option linter.unusedSimpArgs false
/-! ### slices_Repeat: by hand -/
def slices_Repeat_int_int.f (l0 : List Int) (a1 : Int) : Option (List Int) :=
  if l0.length = 1 ∧ 0 ≤ a1 ∧ a1 ≤ 1000000 then some (List.replicate a1.toNat (l0.getD 0 0)) else none
theorem rp_and32 (E : Int) (h0 : 0 ≤ E) (h1 : E ≤ 1000000) : bits BinOp.and IntKind.u64 E 4294967295 = E := by
  have h := bits_and_u64_nat E.toNat 4294967295 (by omega) (by omega)
  rw [Int.toNat_of_nonneg h0, show (4294967295 : Nat) = 2 ^ 32 - 1 from rfl, Nat.and_two_pow_sub_one_eq_mod] at h
  have h2 : ((E.toNat % 2 ^ 32 : Nat) : Int) = E := by omega
  exact h.trans h2
theorem rp_mul (n : Int) (h0 : 0 ≤ n) (h1 : n ≤ 1000000) : bits_Mul.f 1 n = some (0, n) := by
  have e1 : bits BinOp.and IntKind.u64 1 4294967295 = 1 := rp_and32 1 (by omega) (by omega)
  have e0 : bits BinOp.and IntKind.u64 0 4294967295 = 0 := rp_and32 0 (by omega) (by omega)
  have d : n / 4294967296 = 0 := by omega
  have wn : IntKind.u64.wrap n = n := by rw [IntKind.wrap_u64]; omega
  have w0 : IntKind.u64.wrap 0 = 0 := by rfl
  simp only [bits_Mul.f, bits_Mul64.f, rp_and32 n h0 h1, e1, d, Option.bind]
  simp [wn, w0, d, e0]
/-- the row, m of n filled -/
def rp_row (x : Int) (m n : Nat) : List Value := List.replicate m (Value.int .i64 x) ++ List.replicate (n - m) (Value.int .i64 0)
theorem rp_row_len (x : Int) (m n : Nat) (h : m ≤ n) : (rp_row x m n).length = n := by simp [rp_row]; omega
theorem rp_splice (x : Int) (m q n : Nat) (h : m + q ≤ n) : splice (rp_row x m n) m (List.replicate q (Value.int .i64 x)) = rp_row x (m + q) n := by
  apply List.ext_getElem?
  intro i
  simp only [splice, rp_row, List.getElem?_append, List.getElem?_take, List.getElem?_drop, List.getElem?_replicate, List.length_replicate, List.length_take, List.length_append]
  repeat' split
  all_goals first | rfl | omega
theorem rp_made (x : Int) (n : Nat) : madeCells #[Value.int IntKind.i64 0] n = (rp_row x 0 n).toArray := by
  simp only [rp_row, List.replicate_zero, List.nil_append, Nat.sub_zero]
  apply Array.ext_getElem?
  intro i
  simp only [madeCells]
  by_cases h : i < n
  · simp [h, Nat.mod_one]
  · simp [h]
theorem rp_src {W : World} {ad : Addr} {x : Int} (m0 : Nat) (h : W.cell? (ad.add 0) = some (Value.int .i64 x)) (hm : m0 ≤ 1 := by omega) : ∀ j v, (List.replicate m0 (Value.int .i64 x))[j]? = some v → W.cell? (ad.add j) = some v := by
  intro j v hj
  rw [List.getElem?_replicate] at hj
  split at hj
  · cases hj
    obtain rfl : j = 0 := by omega
    exact h
  · cases hj
theorem rp_src2 {W : World} {g m n q t : Nat} {x : Int} (h : W.heap[g]? = some (.cells (rp_row x m n).toArray t (0, 0))) (hq : q ≤ m) : ∀ j v, (List.replicate q (Value.int .i64 x))[j]? = some v → W.cell? ((⟨g, 0, none⟩ : Addr).add j) = some v := by
  intro j v hj
  rw [List.getElem?_replicate] at hj
  split at hj
  · cases hj
    rw [add_plain, blk_cell h j]
    simp only [rp_row, List.getElem?_toArray, List.getElem?_append, List.length_replicate, List.getElem?_replicate]
    rw [if_pos (by omega), if_pos (by omega)]
  · cases hj
set_option maxHeartbeats 2000000 in
set_option maxRecDepth 100000 in
theorem slices_Repeat_int_int.calls (A0 : Option Addr) (c0 : Nat) (l0 : List Int) (a1 : Int) (r : List Int) (w : World) (hr0 : Kd.C (Kd.int .i64) w A0 l0.length l0) (hc0 : l0.length ≤ c0) (h : slices_Repeat_int_int.f l0 a1 = some r) :
    Calls Try.prog 46 #[.slice A0 l0.length c0, .int .i64 a1] w fun e w' => ∃ v0_ : Value, e = .returned (v0_) ∧ Kd.R (Kd.int .i64) 3 w' w.heap.size (fun _ => True) v0_ r ∧ Below w.heap.size w w' := by
  unfold slices_Repeat_int_int.f at h
  by_cases hl : l0.length = 1 ∧ 0 ≤ a1 ∧ a1 ≤ 1000000
  case neg => rw [if_neg hl] at h; cases h
  rw [if_pos hl] at h
  obtain rfl := Option.some.inj h
  clear h
  obtain ⟨hl1, hn0, hn1⟩ := hl
  obtain ⟨x, rfl⟩ := List.length_eq_one_iff.mp hl1
  obtain ⟨ad, ea, hx0⟩ := Kd.at_int hr0 0 (by omega) (by simp)
  cases ea
  simp only [List.length_cons, List.length_nil, Nat.zero_add, List.getD_cons_zero] at *
  have HX := Aside0.mk hx0
  clear hr0 hx0 hl1
  obtain ⟨n, rfl⟩ : ∃ n : Nat, a1 = (n : Int) := ⟨a1.toNat, by omega⟩
  have HM := Aside0.mk (rp_mul (n : Int) hn0 hn1)
  simp only [Int.toNat_natCast]
  have hmk := run_make_row' (P := Try.prog) 22 3 (.int .i64 0) 8 Try.underlying22 info3 rfl .i64 .i64 n (by omega) (by omega)
  have HB := Aside0.mk (Below.refl w.heap.size w)
  have q1 : IntKind.u64.wrap (n : Int) = (n : Int) := by rw [IntKind.wrap_u64]; omega
  have q2 : IntKind.i64.wrap (n : Int) = (n : Int) := by rw [IntKind.wrap_i64]; omega
  go_enter Try.func46, Try.ntmps46
  have hx1 : ∀ nd, ((w.drewN nd).alloc (Obj.cells (madeCells #[Value.int IntKind.i64 0] n) 3)).cell? (ad.add 0) = some (Value.int .i64 x) := by
    intro nd
    have h := HX.out
    rw [show rd [x] 0 = x from rfl] at h
    exact ((below_alloc (pw_below_drewN (Below.refl _ w) nd) _).cell (World.block_lt_of_cell? w _ h)).trans h
  have HX1 := Aside0.mk hx1
  clear hx1
  obtain ⟨m0, hm0⟩ : ∃ m0, m0 = min 1 n := ⟨_, rfl⟩
  obtain ⟨g, hg⟩ : ∃ g, g = w.heap.size := ⟨_, rfl⟩
  have HG := Aside0.mk hg
  have HROW : ∀ nd, Aside0 (((w.drewN nd).alloc (Obj.cells (madeCells #[Value.int IntKind.i64 0] n) 3)).heap[g]? = some (.cells (rp_row x 0 n).toArray 3 (0, 0))) := fun nd => ⟨by
    have h := blk_new (w.drewN nd) (Obj.cells (madeCells #[Value.int IntKind.i64 0] n) 3)
    rw [rp_made x] at h
    rw [rp_made x, hg]
    exact h⟩
  have hcl : (List.replicate m0 (Value.int .i64 x)).length = Nat.min 1 n := by rw [List.length_replicate, hm0]
  have hcf : 0 + (List.replicate m0 (Value.int .i64 x)).length ≤ (rp_row x 0 n).length := by rw [List.length_replicate, rp_row_len x 0 n (by omega)]; omega
  have h1c : ∀ v ∈ List.replicate m0 (Value.int .i64 x), v.oneCell' = true := by intro v hv; rw [List.eq_of_mem_replicate hv]; rfl
  have hgb : w.heap.size ≤ g := by rw [hg]; exact Nat.le_refl _
  go_wp2_with (first | (go_at_call 56; (with_reducible refine (bits_Mul.calls 1 (n : Int) 0 (n : Int) _ HM.out).mono ?_); rintro e w1 ⟨rfl, ⟨nd, rfl⟩⟩) | ((with_reducible refine gate_dst (N := 33) rfl ?_); go_loud (refine wpList_copy_splice rfl _ _ 22 22 rfl 3 Try.underlying22 (by kernel_rfl) (some ⟨w.heap.size, 0, none⟩) (some ad) n n 1 c0 rfl rfl g 0 (rp_row x 0 n) 3 (HROW nd).out (List.replicate m0 (Value.int .i64 x)) hcl (fun hp => ⟨by rw [HG.out], ad, rfl, rp_src _ (HX1.out nd) (by omega)⟩) hcf h1c w.heap.size w (below_alloc (pw_below_drewN HB.out nd) _) hgb ?_); intro w4 hg4 hb4))
  have hrow : w4.heap[g]? = some (.cells (rp_row x m0 n).toArray 3 (0, 0)) := by
    have h : w4.heap[g]? = some (Obj.cells (splice (rp_row x 0 n) 0 (List.replicate m0 (Value.int IntKind.i64 x))).toArray 3 (0, 0)) := hg4
    rw [rp_splice x 0 m0 n (by omega), Nat.zero_add] at h
    exact h
  have HROW4 := Aside0.mk hrow
  have HB4 := Aside0.mk hb4
  clear hrow hb4 hg4 HROW hcl hcf h1c HX1 HX HM HB
  subst hg
  clear HG
  obtain ⟨i0, hi0, hs0⟩ : ∃ i0, Try.prog.info? 3 = some i0 ∧ i0.size = 1 := ⟨_, rfl, rfl⟩
  go_loopg [8] (n - m0) (fun q v8 w' => ∃ m : Int, v8 = .int .i64 m ∧ 0 ≤ m ∧ m ≤ 1000000 ∧ Aside0 (m + (q : Int) = (n : Int) ∧ (1 ≤ m ∨ n = 0)) ∧ Aside0 (w'.heap[w.heap.size]? = some (.cells (rp_row x m.toNat n).toArray 3 (0, 0))) ∧ Aside0 (Below w.heap.size w w'))
  case atStart =>
    refine ⟨(m0 : Int), ?_, by omega, by omega, ⟨by omega, by omega⟩, HROW4, HB4⟩
    rw [hm0]
  case round =>
    clear HROW4 HB4
    obtain ⟨m, rfl, hm1, hm2, HZ, HROW, HB⟩ := hrel
    cases gk with
    | zero =>
      have hmd : decide (m < (n : Int)) = false := decide_eq_false (by have := HZ.out; omega)
      have hmn : m.toNat = n := by have := HZ.out.1; omega
      go_wp2
      go_ret
      refine ⟨_, rfl, ?_, HB.out⟩
      refine Kd.R_of_own ⟨by simp [encs], .inr ⟨w.heap.size, n, _, by simp, hgb, HROW.out, by simp, by unfold maxLen; omega, by rw [List.size_toArray, rp_row_len x m.toNat n (by omega), Nat.mul_one], ?_⟩⟩ (fun _ _ => trivial)
      have e : m.toNat = n := by have := HZ.out; omega
      rw [e]
      simp [rp_row, encs]
    | succ q1 =>
      have hml : m < (n : Int) := by have := HZ.out; omega
      have hmd : decide (m < (n : Int)) = true := decide_eq_true hml
      have p1 := eq_true hm1
      have p2 := eq_true (show m ≤ (n : Int) by omega)
      have p3 := eq_false (show ¬ (n = m.toNat) by omega)
      have hs1 : ∀ W : World, (Instr.slice 22 (.slice (some ⟨w.heap.size, 0, none⟩) n n) (some (.int .i64 m)) none none).run Try.prog W = .ok (.slice (some ⟨w.heap.size, m.toNat, none⟩) (n - m.toNat) (n - m.toNat)) W := by
        intro W
        have := run_cut_l 22 3 Try.underlying22 hi0 hs0 w.heap.size 0 n n m hm1 (by omega) hml W
        rw [Nat.zero_add] at this
        exact this
      have hs2 : ∀ W : World, (Instr.slice 22 (.slice (some ⟨w.heap.size, 0, none⟩) n n) none (some (.int .i64 m)) none).run Try.prog W = .ok (.slice (some ⟨w.heap.size, 0, none⟩) m.toNat n) W := by
        intro W
        have hel : Try.prog.elem 22 = 3 := by simp [Program.elem, Try.underlying22]
        rw [run_slice_h W 22 _ n n (by rw [hel]; exact Try.underlying22) .i64 m hm1 (by omega), hel]
        simp [sizeOf, typeInfo, hi0, hs0, sliced, Result.andThen, Addr.add]
      obtain ⟨q, hq⟩ : ∃ q, q = min m.toNat (n - m.toNat) := ⟨_, rfl⟩
      have hcl : (List.replicate q (Value.int .i64 x)).length = Nat.min m.toNat (n - m.toNat) := by rw [List.length_replicate, hq]
      have hcf : m.toNat + (List.replicate q (Value.int .i64 x)).length ≤ (rp_row x m.toNat n).length := by rw [List.length_replicate, rp_row_len x m.toNat n (by omega)]; omega
      have h1c : ∀ v ∈ List.replicate q (Value.int .i64 x), v.oneCell' = true := by intro v hv; rw [List.eq_of_mem_replicate hv]; rfl
      go_wp2
      go_region_law (refine step_copy_splice rfl (.tmp 41) (.tmp 44) 22 22 rfl 3 Try.underlying22 (by kernel_rfl) (some ⟨w.heap.size, m.toNat, none⟩) (some ⟨w.heap.size, 0, none⟩) (n - m.toNat) (n - m.toNat) m.toNat n ?hd ?hs w.heap.size m.toNat (rp_row x m.toNat n) 3 (by first | exact HROW.out | exact blk_drew HROW.out) (List.replicate q (Value.int .i64 x)) hcl (fun hp => ⟨rfl, ⟨w.heap.size, 0, none⟩, rfl, rp_src2 (by first | exact HROW.out | exact blk_drew HROW.out) (by omega)⟩) hcf h1c w.heap.size w (by first | exact HB.out | exact below_drew1 HB.out) hgb ?_; (case hd => first | (go_simp; done) | (go_simp; rfl)); (case hs => first | (go_simp; done) | (go_simp; rfl)); intro w5 hg5 hb5)
      have HROW5 : Aside0 (w5.heap[w.heap.size]? = some (.cells (rp_row x (m + q).toNat n).toArray 3 (0, 0))) := ⟨by
        have h : w5.heap[w.heap.size]? = some (Obj.cells (splice (rp_row x m.toNat n) m.toNat (List.replicate q (Value.int IntKind.i64 x))).toArray 3 (0, 0)) := hg5
        rw [rp_splice x m.toNat q n (by omega), show m.toNat + q = (m + q).toNat from by omega] at h
        exact h⟩
      have HB5 := Aside0.mk hb5
      have HQ := Aside0.mk hq
      have hq2 : ((min m.toNat (n - m.toNat) : Nat) : Int) = (q : Int) := by rw [hq]
      have hqb : (q : Int) ≤ 1000000 := by omega
      have hq0 : (0 : Int) ≤ (q : Int) := by omega
      clear hg5 hb5 hcl hcf h1c hs1 hs2 hq
      go_wp2
      go_roundg (q1 + 1 - q)
      case measure => have := HQ.out; have := HZ.out; omega
      case rel =>
        refine ⟨m + (q : Int), ?_, ?_, ?_, ?_, HROW5, HB5⟩
        · rw [← HQ.out]
          have hw : IntKind.i64.wrap (m + (q : Int)) = m + (q : Int) := by rw [i64_w]; unfold wrap64; omega
          first | exact congrArg _ hw | (rw [hw]; done) | go_num
        · exact Int.add_nonneg hm1 hq0
        · have h1 := HQ.out; have h2 := HZ.out; omega
        · exact ⟨by have h1 := HQ.out; have h2 := HZ.out; omega, by have h2 := HZ.out; omega⟩
end Go.Proofs.Ytdcldoembdifpaa.X
