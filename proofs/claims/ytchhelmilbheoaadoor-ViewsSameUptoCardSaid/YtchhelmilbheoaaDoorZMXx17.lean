import Derived.Test.YtchhelmilbheoaaDoorZMXx0
import Derived.Deep.OwnRows
import Derived.Lib.SplitLaws
import Derived.Lib.CountLaws
import Derived.RangeFuncRecord
import Derived.Test.YtchhelmilbheoaaDoorZMHt
namespace Go.Proofs.YtchhelmilbheoaaDoor.X
open Go.RowKit Go.Proofs.YtchhelmilbheoaaDoorW.PrintWords Go.Proofs.YtchhelmilbheoaaDoorW.PrintLast Go.Proofs.YtchhelmilbheoaaDoorW.PrintMore
attribute [local go_sem] max2_int min2_int max_two min_two max_three min_three max_four min_four   -- for this text's walks alone
open Go.Proofs.YtchhelmilbheoaaDoorW.HandWords
set_option linter.unusedVariables false
set_option linter.unusedSimpArgs false
namespace Sl
abbrev nlb : ByteArray := ⟨#[10]⟩
def pcs (s : ByteArray) : List ByteArray := Lib.splitB nlb 1 (Lib.countB s nlb) s
def lns (s : ByteArray) : List ByteArray := if (pcs s).getLastD ByteArray.empty = ByteArray.empty then (pcs s).dropLast else pcs s
theorem pcs_len (s : ByteArray) : (pcs s).length = Lib.countB s nlb + 1 := Lib.splitB_all nlb (by decide) 1 _ s rfl
theorem count_eq (s : ByteArray) : Lib.countB s nlb = Lib.countByte s.data.toList 10 := by
  show Lib.count s.data.toList [10] = _
  rw [Lib.count_one]
  rfl
theorem index_eq (s : ByteArray) : Lib.indexB s nlb = Lib.indexByte s.data.toList 10 := Lib.one s nlb rfl
set_option maxHeartbeats 2000000 in
set_option maxRecDepth 100000 in
theorem after (s : ByteArray) (w : World) (hs : s.size < 4294967281) :
    Calls Tryd.prog 37 #[.string s, .string nlb] w fun e w' => e = .returned (.slice (some ⟨w.heap.size, 0, none⟩) (Lib.countB s nlb + 1) (Lib.countB s nlb + 1)) ∧ w' = w.alloc (.cells ((pcs s).map Value.string).toArray 9) := by
  have hle := Lib.countB_le nlb (by decide) s.size s (Nat.le_refl _)
  have hlen := pcs_len s
  have c := Any.strings_genSplit_core Tryd.lays221 (by kernel_rfl) s nlb 1 (-1) (Lib.countB s nlb + 1) w hs (by decide) (by decide)
    (fun x c hx => (Tryd.strings_Index_one x 10 _).mono fun e w' ⟨he, hw⟩ => ⟨by rw [he, index_eq], hw⟩)
    ((Tryd.strings_Count_one s 10 w).mono fun e w' ⟨he, hw⟩ => ⟨by rw [he, count_eq], hw⟩)
    (by decide) (by decide) (by rw [if_pos (by decide)]; omega)
  rw [Nat.add_sub_cancel] at c
  have e2 : Lib.cellsOf (Lib.splitB nlb 1 (Lib.countB s nlb) s) (Lib.countB s nlb + 1) = ((pcs s).map Value.string).toArray := by
    rw [← hlen]
    exact Lib.cellsOf_full _
  rw [e2, show (Lib.splitB nlb 1 (Lib.countB s nlb) s).length = Lib.countB s nlb + 1 from hlen] at c
  have HC := Aside0.mk c
  clear c e2 hlen hle
  go_enter Tryd.func37, Tryd.ntmps37
  go_wp2_with (go_at_call 58; refine HC.out.mono ?_; rintro e w' ⟨rfl, hw⟩; rw [hw])
  go_ret
  exact ⟨rfl, rfl⟩
end Sl
def lines_Split.f (a0 : ByteArray) : Option (List ByteArray) := if a0.size < 4294967281 then some (Sl.lns a0) else none
set_option maxHeartbeats 2000000 in
set_option maxRecDepth 100000 in
theorem lines_Split.calls (a0 : ByteArray) (r : List ByteArray) (w : World) (h : lines_Split.f a0 = some r) :
    Calls Tryd.prog 15 #[.string a0] w fun e w' => ∃ v0_ : Value, e = .returned (v0_) ∧ Kd.R Kd.string 9 w' w.heap.size (fun _ => True) v0_ r ∧ Below w.heap.size w w' := by
  unfold lines_Split.f at h
  by_cases hs : a0.size < 4294967281
  case neg => rw [if_neg hs] at h; cases h
  rw [if_pos hs] at h
  obtain rfl := Option.some.inj h
  clear h
  have hle := Lib.countB_le Sl.nlb (by decide) a0.size a0 (Nat.le_refl _)
  have hlen := Sl.pcs_len a0
  obtain ⟨n, hn⟩ : ∃ n, Lib.countB a0 Sl.nlb = n := ⟨_, rfl⟩
  obtain ⟨P, hP⟩ : ∃ P, Sl.pcs a0 = P := ⟨_, rfl⟩
  have HA := Aside0.mk (Sl.after a0 w hs)
  unfold Sl.lns
  rw [hP] at hlen HA ⊢
  rw [hn] at hlen HA hle
  obtain ⟨W1, hW⟩ : ∃ W1, w.alloc (.cells (P.map Value.string).toArray 9) = W1 := ⟨_, rfl⟩
  have hR : Kd.R Kd.string 9 W1 w.heap.size (fun _ => True) (.slice (some ⟨w.heap.size, 0, none⟩) (n + 1) (n + 1)) P := by
    rw [← hW]
    refine Kd.R_of_own (h1 := fun _ => rfl) ?_ (fun _ _ => trivial)
    refine ⟨by simp [encs], .inr ⟨w.heap.size, n + 1, (P.map Value.string).toArray, by rw [hlen], Nat.le_refl _, World.alloc_heap_new _ _, by omega, by unfold maxLen; omega, by simp [hlen], ?_⟩⟩
    have e : n + 1 = (P.map Value.string).length := by simp [hlen]
    show List.take ((P.length) * 1) (P.map Value.string) = P.map Value.string
    rw [Nat.mul_one, hlen, e]
    exact List.take_length
  have hB : Below w.heap.size w W1 := by rw [← hW]; exact (Below.refl _ _).alloc (Nat.le_refl _) _
  rw [hW] at HA
  clear hW hP hn
  have HR := Aside0.mk hR
  have HB := Aside0.mk hB
  obtain ⟨z, hz⟩ : ∃ z, P.getLastD ByteArray.empty = z := ⟨_, rfl⟩
  have hcell : W1.cell? ⟨w.heap.size, n, none⟩ = some (.string z) := by
    obtain ⟨ad, ea, hx⟩ := Kd.at_string (Kd.R_reads' hR).2.2 (n : Int) (by omega) (by rw [hlen]; omega)
    injection ea with ea
    rw [← ea] at hx
    clear ea
    have e1 : rdOf ByteArray.empty P (n : Int) = z := by
      rw [← hz]
      unfold rdOf
      rw [Int.toNat_natCast, List.getLastD_eq_getLast?, List.getLast?_eq_getElem?, List.getD_eq_getElem?_getD, hlen]
      rfl
    rw [e1] at hx
    have ea : (⟨w.heap.size, 0, none⟩ : Addr).add ((n : Int).toNat) = ⟨w.heap.size, n, none⟩ := by
      rw [Int.toNat_natCast]
      unfold Addr.add
      by_cases h0 : n = 0
      · subst h0; rfl
      · simp [h0]
    rw [ea] at hx
    exact hx
  have hw : wrap64 (n : Int) = (n : Int) := by unfold wrap64; omega
  have p1 : (0 ≤ (n : Int)) = True := eq_true (by omega)
  have p2 : ((n : Int) < ((n + 1 : Nat) : Int)) = True := eq_true (by omega)
  have HZ := Aside0.mk hz
  have HLN := Aside0.mk hlen
  have hadd : (⟨w.heap.size, 0, none⟩ : Addr).add n = ⟨w.heap.size, n, none⟩ := by
    unfold Addr.add
    by_cases h0 : n = 0
    · subst h0; rfl
    · simp [h0]
  clear hR hB hz hlen hle
  by_cases he : z = ByteArray.empty
  · have hd : P.dropLast = P.take n := by rw [List.dropLast_eq_take, HLN.out]; rfl
    rw [if_pos (by rw [HZ.out]; exact he), hd]
    subst he
    clear hd HZ
    go_enter Tryd.func15, Tryd.ntmps15
    go_wp2_with (go_at_call 37; refine HA.out.mono ?_; rintro e w' ⟨rfl, rfl⟩)
    go_ret
    exact ⟨_, rfl, Kd.R_take HR.out (by have := HLN.out; omega), HB.out⟩
  · have q1 : z.toList.isEmpty = false := by
      rw [Lib.toList_data]
      cases h : z.data.toList with
      | nil => exact absurd (by have := Lib.size_eq z; rw [h] at this; exact Go.WideShapes.bytes_inj h) he
      | cons _ _ => rfl
    rw [if_neg (by rw [HZ.out]; exact he)]
    clear HZ he
    go_enter Tryd.func15, Tryd.ntmps15
    go_wp2_with (go_at_call 37; refine HA.out.mono ?_; rintro e w' ⟨rfl, rfl⟩)
    go_ret
    exact ⟨_, rfl, HR.out, HB.out⟩
end Go.Proofs.YtchhelmilbheoaaDoor.X
