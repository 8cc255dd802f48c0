import Derived.Test.YtonbplflmdpikaaZOXx0
import Derived.Test.YtonbplflmdpikaaZOXx2
import Derived.Test.YtonbplflmdpikaaZOXx3
import Derived.Test.YtonbplflmdpikaaZOWA
namespace Go.Proofs.Ytonbplflmdpikaa.X
open Go.RowKit Go.Proofs.YtonbplflmdpikaaW.PrintWords Go.Proofs.YtonbplflmdpikaaW.PrintLast Go.Proofs.YtonbplflmdpikaaW.PrintMore
attribute [local go_sem] max2_int min2_int max_two min_two max_three min_three max_four min_four   -- for this text's walks alone
open Go.Proofs.YtonbplflmdpikaaW.HandWords Go.Proofs.YtonbplflmdpikaaW.HandShort
set_option linter.unusedVariables false
set_option linter.unusedSimpArgs false
mutual
def patience_Longest.l0 : Nat → List (S27) → List Int → Int → Option ((List (S27)))
  | 0, _, _, _ => none
  | k + 1, x0, x3, x5 => if x5 ≥ 0 then (if 0 ≤ (wrap64 (x5 + 1)) then (if (wrap64 (x5 + 1)) ≤ (x0.length : Int) then ((some (x0.drop ((wrap64 (x5 + 1)) : Int).toNat : List (S27))).bind fun y106 => (patience_Longest.l1 k x0 x3 x5 y106 (y106.length : Int) 0)) else (none)) else (none)) else (if (x0.length : Int) = 0 then (some ([] : List (S27))) else ((slices_Max_int_int.f x3).bind fun t119 => (patience_Longest.l2 k x3 ([] : List (S27)) t119 x0 (x0.length : Int) 0)))
def patience_Longest.l1 : Nat → List (S27) → List Int → Int → List (S27) → Int → Int → Option ((List (S27)))
  | 0, _, _, _, _, _, _ => none
  | k + 1, x0, x3, x5, x25, x26, x27 => if x27 < x26 then (if 0 ≤ x27 then (if x27 < (x25.length : Int) then (if 0 ≤ x5 then (if x5 < (x0.length : Int) then ((patience_Longest_1.f ((rd_T27 x0 x5).f0) ((rd_T27 x0 x5).f1) ((rd_T27 x25 x27).f0) ((rd_T27 x25 x27).f1)).bind fun t113 => (if t113 = true then (if x5 < (x3.length : Int) then (if 0 ≤ (wrap64 ((wrap64 (x5 + 1)) + x27)) then (if (wrap64 ((wrap64 (x5 + 1)) + x27)) < (x3.length : Int) then (patience_Longest.l1 k x0 (x3.set (x5 : Int).toNat (mx (rd x3 x5) (rd x3 (wrap64 ((wrap64 (x5 + 1)) + x27))))) x5 x25 x26 (wrap64 (x27 + 1))) else (none)) else (none)) else (none)) else (patience_Longest.l1 k x0 x3 x5 x25 x26 (wrap64 (x27 + 1))))) else (none)) else (none)) else (none)) else (none)) else (if 0 ≤ x5 then (if x5 < (x3.length : Int) then (patience_Longest.l0 k x0 (x3.set (x5 : Int).toNat (wrap64 ((rd x3 x5) + 1))) (wrap64 (x5 - 1))) else (none)) else (none))
def patience_Longest.l2 : Nat → List Int → List (S27) → Int → List (S27) → Int → Int → Option ((List (S27)))
  | 0, _, _, _, _, _, _ => none
  | k + 1, x3, x8, x9, x66, x67, x68 => if x68 < x67 then (if 0 ≤ x68 then (if x68 < (x66.length : Int) then (if x68 < (x3.length : Int) then (if (rd x3 x68) = x9 then (if (x8.length : Int) = 0 then (if x8.length < 8796093022208 then (patience_Longest.l2 k x3 (x8 ++ [(⟨(rd_T27 x66 x68).f0, (rd_T27 x66 x68).f1⟩ : S27)]) (wrap64 (x9 - 1)) x66 x67 (wrap64 (x68 + 1))) else (none)) else (if 0 ≤ (wrap64 ((x8.length : Int) - 1)) then (if (wrap64 ((x8.length : Int) - 1)) < (x8.length : Int) then ((patience_Longest_1.f ((rd_T27 x8 (wrap64 ((x8.length : Int) - 1))).f0) ((rd_T27 x8 (wrap64 ((x8.length : Int) - 1))).f1) ((rd_T27 x66 x68).f0) ((rd_T27 x66 x68).f1)).bind fun t127 => (if t127 = true then (if x8.length < 8796093022208 then (patience_Longest.l2 k x3 (x8 ++ [(⟨(rd_T27 x66 x68).f0, (rd_T27 x66 x68).f1⟩ : S27)]) (wrap64 (x9 - 1)) x66 x67 (wrap64 (x68 + 1))) else (none)) else (patience_Longest.l2 k x3 x8 x9 x66 x67 (wrap64 (x68 + 1))))) else (none)) else (none))) else (patience_Longest.l2 k x3 x8 x9 x66 x67 (wrap64 (x68 + 1)))) else (none)) else (none)) else (none)) else (some x8)
end
def patience_Longest.f (k : Nat) (l0 : List (S27)) : Option ((List (S27))) := if 0 ≤ (l0.length : Int) then (if ((l0.length : Int) : Int).toNat ≤ 35184372088832 then (patience_Longest.l0 k l0 (List.replicate ((l0.length : Int) : Int).toNat 0) (wrap64 ((l0.length : Int) - 1))) else (none)) else (none)
def patience_Longest.T10 : Bool × List (List Nat × List Nat) := (true, [([], []), ([], []), ([], []), ([], []), ([2, 3], [2, 3]), ([4], [4]), ([], []), ([], []), ([7], [7]), ([], []), ([8, 9], [8, 9]), ([6, 10], [6, 10]), ([11], [11]), ([5, 12], [5, 12]), ([0, 1, 0, 1, 2, 3, 4, 5, 6, 7, 8, 9, 10, 11, 12, 13], [0, 1]), ([14, 13, 0, 1, 2, 3, 4, 5, 6, 7, 8, 9, 10, 11, 12, 13], [13, 14])])
def patience_Longest.B10 : List Nat := [0, 0, 0, 0, 12, 28, 0, 0, 128, 0, 896, 1984, 4032, 8188, 16383, 32767]
theorem patience_Longest.tab10 : rtab .any (opsOf Try.f7 10) = patience_Longest.T10 := by kernel_rfl
theorem patience_Longest.bits10 : waitsOk patience_Longest.T10.2 patience_Longest.B10 = true := by kernel_rfl
def patience_Longest.T20 : Bool × List (List Nat × List Nat) := (true, [([], []), ([], []), ([0, 1], [0, 1]), ([2], [2]), ([], []), ([3, 4], [3, 4]), ([5], [5]), ([6], [6]), ([7, 6], [6, 7]), ([8, 6], [6, 8]), ([9, 6, 6], [6, 9]), ([10], [10]), ([10], [10]), ([10], [10]), ([13, 10], [10, 13]), ([14, 10], [10, 14]), ([12, 15, 10], [10, 12, 15]), ([16, 10], [10, 16]), ([10], [10]), ([11, 17, 18, 10, 10], [10, 11, 17, 18]), ([10, 19, 6], [6, 10, 19]), ([6, 20], [6, 20])])
def patience_Longest.B20 : List Nat := [0, 0, 3, 7, 0, 31, 63, 127, 255, 511, 1023, 2047, 2047, 2047, 10239, 26623, 63487, 129023, 2047, 524287, 1048575, 2097151]
theorem patience_Longest.tab20 : rtab .any (opsOf Try.f7 20) = patience_Longest.T20 := by kernel_rfl
theorem patience_Longest.bits20 : waitsOk patience_Longest.T20.2 patience_Longest.B20 = true := by kernel_rfl
def patience_Longest.aa_0 : Array Bool := #[true, false, false, false, false, false, false, false, false, false, false, false, false, false, false, false, false, false, false, false, false, false]
def patience_Longest.aa_1 : Array Bool := #[true, true, false, false, false, false, false, false, false, false, false, false, false, false, false, false, false, false, false, false, false, false]
def patience_Longest.aa_2 : Array Bool := #[true, true, true, false, false, false, false, false, false, false, false, false, false, false, false, false, false, false, false, false, false, false]
def patience_Longest.aa_3 : Array Bool := #[true, true, true, false, true, false, false, false, false, false, false, false, false, false, false, false, false, false, false, false, false, false]
def patience_Longest.aa_4 : Array Bool := #[true, true, true, true, true, false, false, false, false, false, false, false, false, false, false, false, false, false, false, false, false, false]
def patience_Longest.aa_5 : Array Bool := #[true, true, true, true, true, true, false, false, false, false, false, false, false, false, false, false, false, false, false, false, false, false]
def patience_Longest.aa_6 : Array Bool := #[true, true, true, true, true, true, true, false, false, false, false, false, false, false, false, false, false, false, false, false, false, false]
def patience_Longest.aa_7 : Array Bool := #[true, true, true, true, true, true, true, true, false, false, false, false, false, false, false, false, false, false, false, false, false, false]
def patience_Longest.aa_8 : Array Bool := #[true, true, true, true, true, true, true, true, true, false, false, false, false, false, false, false, false, false, false, false, false, false]
def patience_Longest.aa_9 : Array Bool := #[true, true, true, true, true, true, true, true, true, true, false, false, false, false, false, false, false, false, false, false, false, false]
def patience_Longest.aa_10 : Array Bool := #[true, true, true, true, true, true, true, true, true, true, true, false, false, false, false, false, false, false, false, false, false, false]
def patience_Longest.aa_11 : Array Bool := #[true, true, true, true, true, true, true, true, true, true, true, true, false, false, false, false, false, false, false, false, false, false]
def patience_Longest.aa_12 : Array Bool := #[true, true, true, true, true, true, true, true, true, true, true, true, true, false, false, false, false, false, false, false, false, false]
def patience_Longest.aa_13 : Array Bool := #[true, true, true, true, true, true, true, true, true, true, true, true, true, true, false, false, false, false, false, false, false, false]
def patience_Longest.aa_14 : Array Bool := #[true, true, true, true, true, true, true, true, true, true, true, true, true, true, true, false, false, false, false, false, false, false]
def patience_Longest.aa_15 : Array Bool := #[true, true, true, true, true, true, true, true, true, true, true, true, true, true, true, true, false, false, false, false, false, false]
def patience_Longest.aa_16 : Array Bool := #[true, true, true, true, true, true, true, true, true, true, true, true, true, true, true, true, true, false, false, false, false, false]
def patience_Longest.aa_17 : Array Bool := #[true, true, true, true, true, true, true, true, true, true, true, true, true, true, true, true, true, true, false, false, false, false]
def patience_Longest.aa_18 : Array Bool := #[true, true, true, true, true, true, true, true, true, true, true, true, true, true, true, true, true, true, true, false, false, false]
def patience_Longest.aa_19 : Array Bool := #[true, true, true, true, true, true, true, true, true, true, true, true, true, true, true, true, true, true, true, true, false, false]
def patience_Longest.aa_20 : Array Bool := #[true, true, true, true, true, true, true, true, true, true, true, true, true, true, true, true, true, true, true, true, true, false]
def patience_Longest.aa_21 : Array Bool := #[true, true, true, true, true, true, true, true, true, true, true, true, true, true, true, true, true, true, true, true, true, true]
set_option maxHeartbeats 8000000 in
set_option maxRecDepth 100000 in
theorem patience_Longest.calls (k : Nat) (A0 : Option Addr) (c0 : Nat) (l0 : List (S27)) (r : List (S27)) (w : World) (hr0 : Kd.C k27 w A0 l0.length l0) (hc0 : l0.length ≤ c0) (h : patience_Longest.f k l0 = some r) :
    Calls Try.prog 7 #[.slice A0 l0.length c0] w fun e w' => ∃ v0_ : Value, e = .returned (v0_) ∧ Kd.R k27 27 w' w.heap.size (fun _ => True) v0_ r ∧ Below w.heap.size w w' := by
  have hu27 := Try.underlying27
  have HR0 := Aside0.mk hr0
  have HC0 := Aside0.mk hc0
  clear hr0 hc0
  have HB := Aside0.mk (Below.refl w.heap.size w)
  have H : (if 0 ≤ (l0.length : Int) then (if ((l0.length : Int) : Int).toNat ≤ 35184372088832 then (patience_Longest.l0 k l0 (List.replicate ((l0.length : Int) : Int).toNat 0) (wrap64 ((l0.length : Int) - 1))) else (none)) else (none)) = some r := h
  clear h
  by_cases c2 : 0 ≤ (l0.length : Int)
  ·rw [if_pos c2] at H
   have c2b0 := eq_true c2
   have c2b1 : decide (0 ≤ (l0.length : Int)) = true := decide_eq_true c2
   clear c2
   by_cases c3 : ((l0.length : Int) : Int).toNat ≤ 35184372088832
   ·rw [if_pos c3] at H
    have c3b0 := eq_true c3
    have c3b1 : decide (((l0.length : Int) : Int).toNat ≤ 35184372088832) = true := decide_eq_true c3
    clear c3
    obtain ⟨y103, hy103⟩ : ∃ y_ : List Int, y_ = (List.replicate ((l0.length : Int) : Int).toNat 0) := ⟨_, rfl⟩
    replace H : (patience_Longest.l0 k l0 y103 (wrap64 ((l0.length : Int) - 1))) = some r := by first | (rw [hy103]; with_reducible exact H) | (have H2_ := (Option.bind_some _ _).symm.trans H; rw [hy103]; with_reducible exact H2_) | (have H2_ := (Option.bind_some _ _).symm.trans H; with_reducible exact H2_) | with_reducible exact H | (rw [hy103]; exact H) | exact H
    have Ny103 := Aside0.mk hy103
    clear hy103
    have H' := Aside0.mk H
    clear H
    go_enter Try.func7, Try.ntmps7
    go_wp2_with (first | ((with_reducible refine gate_dst (N := 14) rfl ?_); (try (refine gate_guard (by rfl) ?_; dsimp only)); refine Kd.R_make (Kd.int .i64) _ 3 rfl (N := 14) rfl 22 _ _ rfl (l0.length : Int) rfl rfl Try.underlying22 (.int .i64 0) 8 info3 rfl (by decide) (by omega) 0 (ok := fun _ => True) (okp := fun _ => True) rfl (fun _ hk => hk) trivial (of_decide_eq_true (by first | (with_reducible assumption) | assumption)) (Nat.le_trans (Nat.mul_le_mul_right _ (of_decide_eq_true (by first | (with_reducible assumption) | assumption) : (l0.length : Int).toNat ≤ 35184372088832)) (by omega)) (Below.refl _ _) (Nat.le_refl _) ?_; intro v104 w4 ho5 hb hg_ hnew_; clear hg_ hnew_; (first | rw [← Ny103.out] at ho5 | (simp only [Int.reduceToNat] at ho5; rw [← Ny103.out] at ho5)); have n0_ := Aside0.mk (Kd.R_lower ho5 (below_size (by repeat (first | (with_reducible first | exact HB.out | apply below_alloc | apply pw_below_drewN | apply below_drew1) | exact HB.out)))); have n1_ := Aside0.mk (below_step (by repeat (first | (with_reducible first | exact HB.out | apply below_alloc | apply pw_below_drewN | apply below_drew1) | exact HB.out)) hb); clear HB; have HO105 := n0_; have HB := n1_; clear n0_ n1_; clear hb ho5))
    go_loopg [5] k (fun kq v5 w' => ∃ (x3_1 : List Int) (x5_1 : Int), v5 = .int .i64 x5_1 ∧ Aside0 (patience_Longest.l0 kq l0 x3_1 x5_1 = some r) ∧ Aside0 (kq ≤ k) ∧ Aside0 (Kd.R (Kd.int .i64) 3 w' w.heap.size (fun _ => True) v104 x3_1) ∧ Aside0 (Below w.heap.size w w'))
    case atStart => exact ⟨(y103), (wrap64 ((l0.length : Int) - 1)), (by first | rfl | (simp; done) | (simp [*]; done)), H', ⟨Nat.le_refl _⟩, ⟨by (with_reducible repeat (first | apply Kd.R_alloc | apply Kd.R_drewN | apply Kd.R_drew)); exact HO105.out⟩, ⟨by repeat (first | (with_reducible first | exact HB.out | apply below_alloc | apply pw_below_drewN | apply below_drew1) | exact HB.out)⟩⟩
    case round =>
     clear H'
     try clear c2
     try clear c2b0
     try clear c2b1
     try clear p2
     try clear c3
     try clear c3b0
     try clear c3b1
     obtain ⟨x3_1, x5_1, rfl, HA, HK1, HO_3, HB⟩ := hrel
     cases gk with
     | zero => exact absurd HA.out (by simp [patience_Longest.l0])
     | succ k1 =>
      have H := HA.out
      clear HA
      simp only [patience_Longest.l0] at H
      by_cases c6 : x5_1 ≥ 0
      ·rw [if_pos c6] at H
       have c6b0 : decide (0 ≤ x5_1) = true := decide_eq_true c6
       clear c6
       obtain ⟨ji7, hji7⟩ : ∃ j_ : Int, (wrap64 (x5_1 + 1)) = j_ := ⟨_, rfl⟩
       replace H : (if 0 ≤ (ji7) then (if (ji7) ≤ (l0.length : Int) then ((some (l0.drop ((ji7) : Int).toNat : List (S27))).bind fun y106 => (patience_Longest.l1 k1 l0 x3_1 x5_1 y106 (y106.length : Int) 0)) else (none)) else (none)) = some r := by first | (rw [hji7] at H; exact H) | (simp only [hji7] at H ⊢; exact H)
       have hji7w : (IntKind.i64.wrap (x5_1 + 1)) = ji7 := (i64_w _).trans hji7
       by_cases c8 : 0 ≤ (ji7)
       ·rw [if_pos c8] at H
        have c8b0 := eq_true c8
        have c8b1 : decide (0 ≤ (ji7)) = true := decide_eq_true c8
        clear c8
        by_cases c9 : (ji7) ≤ (l0.length : Int)
        ·rw [if_pos c9] at H
         have c9b0 := eq_true c9
         have c9b1 : decide ((ji7) ≤ (l0.length : Int)) = true := decide_eq_true c9
         clear c9
         obtain ⟨y106, hy106⟩ : ∃ y_ : List (S27), y_ = (l0.drop ((ji7) : Int).toNat) := ⟨_, rfl⟩
         replace H : (patience_Longest.l1 k1 l0 x3_1 x5_1 y106 (y106.length : Int) 0) = some r := by first | (rw [hy106]; with_reducible exact H) | (have H2_ := (Option.bind_some _ _).symm.trans H; rw [hy106]; with_reducible exact H2_) | (have H2_ := (Option.bind_some _ _).symm.trans H; with_reducible exact H2_) | with_reducible exact H | (rw [hy106]; exact H) | exact H
         have Ny106 := Aside0.mk hy106
         clear hy106
         have H' := Aside0.mk H
         clear H
         have q10 : ((ji7) : Int) ≤ ((l0.length : Int) : Int) := of_decide_eq_true (by first | (with_reducible assumption) | assumption)
         obtain ⟨i010, hi010, _, hsz10, _⟩ := info_parts info27
         have hroom10 : l0.length ≤ c0 := HC0.out
         have hC10 : Kd.C k27 _ A0 l0.length l0 := HR0.out
         have q010 : (0 : Int) ≤ ((ji7) : Int) := of_decide_eq_true (by first | (with_reducible assumption) | assumption)
         have hcut10 := cut_from (P := Try.prog) 24 27 .i64 Try.underlying24 hi010 2 hsz10 A0 l0.length c0 (ji7) q010 q10
         have hr10 := Kd.C_drop (m := ((ji7) : Int).toNat) (c := c0) hC10 (by omega) hroom10
         obtain ⟨A10, hA10⟩ : ∃ A1, A1 = (if c0 = ((ji7) : Int).toNat then A0 else (A0 : Option Addr).map (·.add (((ji7) : Int).toNat * 2))) := ⟨_, rfl⟩
         obtain ⟨c10, hc10⟩ : ∃ c1, c1 = c0 - ((ji7) : Int).toNat := ⟨_, rfl⟩
         have hy10 : y106.length = l0.length - ((ji7) : Int).toNat := (by rw [Ny106.out, List.length_drop] <;> omega)
         rw [show (l0).drop ((ji7) : Int).toNat = y106 from Ny106.out.symm] at hr10
         replace hr10 : Kd.C k27 _ A10 y106.length y106 := (by rw [hA10]; exact hr10)
         rw [← hy10, ← hA10, ← hc10] at hcut10
         have HR109 := Aside0.mk hr10
         have HC109 := Aside0.mk (show y106.length ≤ c10 from by rw [hy10, hc10]; exact Nat.sub_le_sub_right hroom10 _)
         clear hr10 hC10 hroom10 hi010 hsz10 hc10
         have KY10 := Aside0.mk hy10
         have KA10 := Aside0.mk hA10
         clear hy10 hA10
         replace q10 := eq_true q10
         go_wp2
         go_loopg [27] k1 (fun kq v27 w' => ∃ (x3_2 : List Int) (x27_2 : Int), v27 = .int .i64 x27_2 ∧ Aside0 (patience_Longest.l1 kq l0 x3_2 x5_1 y106 (y106.length : Int) x27_2 = some r) ∧ Aside0 (kq ≤ k1) ∧ Aside0 (Kd.R (Kd.int .i64) 3 w' w.heap.size (fun _ => True) v104 x3_2) ∧ Aside0 (Below w.heap.size w w'))
         case atStart => exact ⟨(x3_1), (0), (by first | rfl | (simp; done) | (simp [*]; done)), H', ⟨Nat.le_refl _⟩, ⟨by (with_reducible repeat (first | apply Kd.R_alloc | apply Kd.R_drewN | apply Kd.R_drew)); exact HO_3.out⟩, ⟨by repeat (first | (with_reducible first | exact HB.out | apply below_alloc | apply pw_below_drewN | apply below_drew1) | exact HB.out)⟩⟩
         case round =>
          clear H'
          try clear c1
          try clear q1
          try clear c2
          try clear c2b0
          try clear c2b1
          try clear p2
          try clear c3
          try clear c3b0
          try clear c3b1
          try clear c6
          try clear c6b0
          try clear p6
          try clear c7
          try clear c8
          try clear c8b0
          try clear c8b1
          try clear c9
          try clear c9b0
          try clear c9b1
          try clear c10
          try clear q10
          try clear p2
          try clear q010
          try clear q10
          obtain ⟨x3_2, x27_2, rfl, HA, HK2, HO_3, HB⟩ := hrel
          cases gk with
          | zero => exact absurd HA.out (by simp [patience_Longest.l1])
          | succ k2 =>
           have H := HA.out
           clear HA
           simp only [patience_Longest.l1] at H
           by_cases c11 : x27_2 < (y106.length : Int)
           ·rw [if_pos c11] at H
            have c11b0 : decide (x27_2 < (y106.length : Int)) = true := decide_eq_true c11
            clear c11
            by_cases c12 : 0 ≤ x27_2
            ·rw [if_pos c12] at H
             have c12b0 : decide (0 ≤ x27_2) = true := decide_eq_true c12
             clear c12
             by_cases c13 : x27_2 < (y106.length : Int)
             ·rw [if_pos c13] at H
              have c13b0 : decide (x27_2 < (y106.length : Int)) = true := decide_eq_true c13
              clear c13
              by_cases c14 : 0 ≤ x5_1
              ·rw [if_pos c14] at H
               have c14b0 : decide (0 ≤ x5_1) = true := decide_eq_true c14
               clear c14
               by_cases c15 : x5_1 < (l0.length : Int)
               ·rw [if_pos c15] at H
                have c15b0 : decide (x5_1 < (l0.length : Int)) = true := decide_eq_true c15
                clear c15
                replace H := Option.bind_eq_some_iff.mp H
                obtain ⟨t113, A160, H⟩ := H
                replace H : (if t113 = true then (if x5_1 < (x3_2.length : Int) then (if 0 ≤ (wrap64 ((wrap64 (x5_1 + 1)) + x27_2)) then (if (wrap64 ((wrap64 (x5_1 + 1)) + x27_2)) < (x3_2.length : Int) then (patience_Longest.l1 k2 l0 (x3_2.set (x5_1 : Int).toNat (mx (rd x3_2 x5_1) (rd x3_2 (wrap64 ((wrap64 (x5_1 + 1)) + x27_2))))) x5_1 y106 (y106.length : Int) (wrap64 (x27_2 + 1))) else (none)) else (none)) else (none)) else (patience_Longest.l1 k2 l0 x3_2 x5_1 y106 (y106.length : Int) (wrap64 (x27_2 + 1)))) = some r := H
                have A16 := Aside0.mk A160
                clear A160
                by_cases c17 : t113 = true
                ·subst c17
                 have H1 : (if x5_1 < (x3_2.length : Int) then (if 0 ≤ (wrap64 ((wrap64 (x5_1 + 1)) + x27_2)) then (if (wrap64 ((wrap64 (x5_1 + 1)) + x27_2)) < (x3_2.length : Int) then (patience_Longest.l1 k2 l0 (x3_2.set (x5_1 : Int).toNat (mx (rd x3_2 x5_1) (rd x3_2 (wrap64 ((wrap64 (x5_1 + 1)) + x27_2))))) x5_1 y106 (y106.length : Int) (wrap64 (x27_2 + 1))) else (none)) else (none)) else (none)) = some r := by rw [if_pos rfl] at H; exact H
                 clear H
                 have H := H1
                 clear H1
                 by_cases c18 : x5_1 < (x3_2.length : Int)
                 ·rw [if_pos c18] at H
                  have c18b0 : decide (x5_1 < (x3_2.length : Int)) = true := decide_eq_true c18
                  clear c18
                  obtain ⟨ji19, hji19⟩ : ∃ j_ : Int, (wrap64 ((wrap64 (x5_1 + 1)) + x27_2)) = j_ := ⟨_, rfl⟩
                  replace H : (if 0 ≤ (ji19) then (if (ji19) < (x3_2.length : Int) then (patience_Longest.l1 k2 l0 (x3_2.set (x5_1 : Int).toNat (mx (rd x3_2 x5_1) (rd x3_2 (ji19)))) x5_1 y106 (y106.length : Int) (wrap64 (x27_2 + 1))) else (none)) else (none)) = some r := by first | (rw [hji19] at H; exact H) | (simp only [hji19] at H ⊢; exact H)
                  (try rw [hji19] at A16)
                  have hji19w : (IntKind.i64.wrap ((wrap64 (x5_1 + 1)) + x27_2)) = ji19 := (i64_w _).trans hji19
                  (try (have hji19x := hji19; rw [hji7] at hji19x; have hji19xw := (i64_w _).trans hji19x))
                  by_cases c20 : 0 ≤ (ji19)
                  ·rw [if_pos c20] at H
                   have c20b0 : decide (0 ≤ (ji19)) = true := decide_eq_true c20
                   clear c20
                   by_cases c21 : (ji19) < (x3_2.length : Int)
                   ·rw [if_pos c21] at H
                    have c21b0 : decide ((ji19) < (x3_2.length : Int)) = true := decide_eq_true c21
                    clear c21
                    obtain ⟨ji22, hji22⟩ : ∃ j_ : Int, (mx (rd x3_2 x5_1) (rd x3_2 (ji19))) = j_ := ⟨_, rfl⟩
                    replace H : (patience_Longest.l1 k2 l0 (x3_2.set (x5_1 : Int).toNat (ji22)) x5_1 y106 (y106.length : Int) (wrap64 (x27_2 + 1))) = some r := by first | (rw [hji22] at H; exact H) | (simp only [hji22] at H ⊢; exact H)
                    (try rw [hji22] at A16)
                    have hji22_ : (if (rd x3_2 x5_1) < (rd x3_2 (ji19)) then (rd x3_2 (ji19)) else (rd x3_2 x5_1)) = ji22 := hji22
                    obtain ⟨y116, hy116⟩ : ∃ y_ : List Int, y_ = (x3_2.set (x5_1 : Int).toNat (ji22)) := ⟨_, rfl⟩
                    replace H : (patience_Longest.l1 k2 l0 y116 x5_1 y106 (y106.length : Int) (wrap64 (x27_2 + 1))) = some r := by first | (rw [hy116]; with_reducible exact H) | (have H2_ := (Option.bind_some _ _).symm.trans H; rw [hy116]; with_reducible exact H2_) | (have H2_ := (Option.bind_some _ _).symm.trans H; with_reducible exact H2_) | with_reducible exact H | (rw [hy116]; exact H) | exact H
                    have Ny116 := Aside0.mk hy116
                    clear hy116
                    have H' := Aside0.mk H
                    clear H
                    have p110 : 0 ≤ (x27_2 : Int) := of_decide_eq_true (by first | (with_reducible assumption) | assumption)
                    have q110 : x27_2 < (y106.length : Int) := of_decide_eq_true (by first | (with_reducible assumption) | assumption)
                    obtain ⟨ad110, e110, hx110_0, hx110_1⟩ := at_T27 HR109.out x27_2 p110 q110
                    cases e110
                    replace hx110_0 := (HB.out.cell (World.block_lt_of_cell? w _ hx110_0)).trans hx110_0
                    replace hx110_1 := (HB.out.cell (World.block_lt_of_cell? w _ hx110_1)).trans hx110_1
                    replace p110 := eq_true p110
                    replace q110 := eq_true q110
                    try go_wp2_with (first | ((with_reducible refine gate_dst (N := 7) rfl ?_); (try (refine gate_guard (by rfl) ?_; dsimp only)); refine box_event ?hg (N := 7) ?hd (cs := #[.int .i64 0, .int .i64 0]) (t := 27) ?hr ?_; (case hd => rfl); (case hg => rfl); (case hr => first | (go_simp; done) | (go_simp; rfl)); intro gb111 hg w24 hbox hb; have n0_ := Aside0.mk (Kd.R_below (by (with_reducible repeat (first | apply Kd.R_alloc | apply Kd.R_drewN | apply Kd.R_drew)); exact HO_3.out) hb); have n1_ := Aside0.mk (below_step (by repeat (first | (with_reducible first | exact HB.out | apply below_alloc | apply pw_below_drewN | apply below_drew1) | exact HB.out)) hb); have n2_ := Aside0.mk (hbox); have n3_ := Aside0.mk ((by rw [hg]; exact (below_size (by repeat (first | (with_reducible first | exact HB.out | apply below_alloc | apply pw_below_drewN | apply below_drew1) | exact HB.out))) : w.heap.size ≤ gb111)); have n4_ := Aside0.mk ((by rw [hg]; exact (below_size (by repeat (first | (with_reducible first | exact HB.out | apply below_alloc | apply pw_below_drewN | apply below_drew1) | exact HB.out))) : w.heap.size ≤ gb111)); clear HO_3; clear HB; have HO_3 := n0_; have HB := n1_; have BK111 := n2_; have GW111 := n3_; have GE111 := n4_; clear n0_ n1_ n2_ n3_ n4_; clear hb hbox hg; have hcz25_0 : w24.cell? ⟨gb111, 0, none⟩ = some (.int .i64 0) := (blk_cell BK111.out 0).trans rfl; have hcz25_1 : w24.cell? ⟨gb111, 1, none⟩ = some (.int .i64 0) := (blk_cell BK111.out 1).trans rfl; have hfz25_0 := blk_frozen BK111.out 0; have hfz25_1 := blk_frozen BK111.out 1))
                    have n0_ : Aside0 (Kd.R (Kd.int .i64) 3 ((w24.setCell ⟨gb111, 0, none⟩ (.int .i64 ((rd_T27 y106 x27_2).f0))).setCell ⟨gb111, 1, none⟩ (.int .i64 ((rd_T27 y106 x27_2).f1))) w.heap.size (fun _ => True) v104 x3_2) := ⟨by (with_reducible repeat (first | apply Kd.R_alloc | apply Kd.R_drewN | apply Kd.R_drew)); exact Kd.R_mono (Kd.R_far (p := ⟨gb111, 1, none⟩) (Kd.R_far (p := ⟨gb111, 0, none⟩) (Kd.R_types HO_3.out BK111.out (by decide)) (fun _ hk => hk.2) (.int .i64 ((rd_T27 y106 x27_2).f0))) (fun _ hk => hk.2) (.int .i64 ((rd_T27 y106 x27_2).f1))) (fun _ hk => trivial)⟩
                    have n1_ : Aside0 (((w24.setCell ⟨gb111, 0, none⟩ (.int .i64 ((rd_T27 y106 x27_2).f0))).setCell ⟨gb111, 1, none⟩ (.int .i64 ((rd_T27 y106 x27_2).f1))).heap[gb111]? = some (.cells #[.int .i64 ((rd_T27 y106 x27_2).f0), .int .i64 ((rd_T27 y106 x27_2).f1)] 27 (0, 0))) := ⟨by (with_reducible repeat (first | refine blk_drewN ?_ _ | refine blk_drew ?_ | refine blk_alloc ?_ _)); refine blk_put (cs := #[.int .i64 ((rd_T27 y106 x27_2).f0), .int .i64 0]) ?_ 1 _ rfl; (with_reducible repeat (first | refine blk_drewN ?_ _ | refine blk_drew ?_ | refine blk_alloc ?_ _)); refine blk_put (cs := #[.int .i64 0, .int .i64 0]) ?_ 0 _ rfl; (with_reducible repeat (first | refine blk_drewN ?_ _ | refine blk_drew ?_ | refine blk_alloc ?_ _)); exact BK111.out⟩
                    have n2_ : Aside0 (Below w.heap.size w ((w24.setCell ⟨gb111, 0, none⟩ (.int .i64 ((rd_T27 y106 x27_2).f0))).setCell ⟨gb111, 1, none⟩ (.int .i64 ((rd_T27 y106 x27_2).f1)))) := ⟨by repeat (first | (with_reducible first | exact HB.out | apply below_alloc | apply pw_below_drewN | apply below_drew1 | refine below_set ?_ GE111.out) | exact HB.out)⟩
                    (try clear HO_3)
                    (try clear BK111)
                    (try clear HB)
                    generalize ((w24.setCell ⟨gb111, 0, none⟩ (.int .i64 ((rd_T27 y106 x27_2).f0))).setCell ⟨gb111, 1, none⟩ (.int .i64 ((rd_T27 y106 x27_2).f1))) = w26 at n0_ n1_ n2_ ⊢
                    have HO_3 := n0_
                    have BK111 := n1_
                    have HB := n2_
                    clear n0_ n1_ n2_
                    have n0_ := Aside0.mk (Kd.R_drew HO_3.out)
                    have n1_ := Aside0.mk (blk_drew BK111.out)
                    have n2_ := Aside0.mk (below_drew1 HB.out)
                    clear HO_3
                    clear BK111
                    clear HB
                    have HO_3 := n0_
                    have BK111 := n1_
                    have HB := n2_
                    clear n0_ n1_ n2_
                    have p112 : 0 ≤ (x5_1 : Int) := of_decide_eq_true (by first | (with_reducible assumption) | assumption)
                    have q112 : x5_1 < (l0.length : Int) := of_decide_eq_true (by first | (with_reducible assumption) | assumption)
                    obtain ⟨ad112, e112, hx112_0, hx112_1⟩ := at_T27 HR0.out x5_1 p112 q112
                    have hw112_1 := hx112_1
                    have hw112_0 := hx112_0
                    cases e112
                    replace hx112_0 := (HB.out.cell (World.block_lt_of_cell? w _ hx112_0)).trans hx112_0
                    replace hx112_1 := (HB.out.cell (World.block_lt_of_cell? w _ hx112_1)).trans hx112_1
                    replace p112 := eq_true p112
                    replace q112 := eq_true q112
                    refine start_ (n := 7) (S := fun w' => w'.cell? ⟨gb111, 0, none⟩ = some (.int .i64 ((rd_T27 y106 x27_2).f0)) ∧ w'.cell? ⟨gb111, 1, none⟩ = some (.int .i64 ((rd_T27 y106 x27_2).f1)) ∧ w'.cell? (ad112.add ((x5_1).toNat * 2)) = some (.int .i64 ((rd_T27 l0 x5_1).f0)) ∧ w'.cell? ⟨(ad112.add ((x5_1).toNat * 2)).block, (ad112.add ((x5_1).toNat * 2)).off + 1, none⟩ = some (.int .i64 ((rd_T27 l0 x5_1).f1))) (ds := []) #[false, false, false, false, false, false, false] (by kernel_rfl) rfl rfl ⟨(blk_cell BK111.out 0).trans rfl, (blk_cell BK111.out 1).trans rfl, ((HB.out.cell (World.block_lt_of_cell? w _ hw112_0)).trans hw112_0), ((HB.out.cell (World.block_lt_of_cell? w _ hw112_1)).trans hw112_1)⟩ (fun hHeld => ?_)
                    generalize w26.drew = w27 at HO_3 BK111 HB hx112_0 hx112_1 hHeld ⊢
                    refine pure_ (i := 0) (N := some 32) (v := ?_) (a' := ?_) (ar 7 1) rfl rfl (by kernel_rfl) (fun _ _ _ h => h) (Or.inl ⟨by rfl, ?_⟩) ?_ ?_
                    rotate_left
                    ·intro w'
                     go_simp
                     with_reducible rfl
                    rotate_left
                    ·simp only [Act.put, List.setIfInBounds_toArray, List.set_cons_zero, List.set_cons_succ, i64_w, i32_w]
                     rfl
                    refine pure_ (i := 1) (N := some 33) (v := ?_) (a' := ?_) (ar 7 2) rfl rfl (by kernel_rfl) (fun _ _ _ h => h) (Or.inl ⟨by rfl, ?_⟩) ?_ ?_
                    rotate_left
                    ·intro w'
                     go_simp
                     with_reducible rfl
                    rotate_left
                    ·simp only [Act.put, List.setIfInBounds_toArray, List.set_cons_zero, List.set_cons_succ, i64_w, i32_w]
                     rfl
                    refine pure_ (i := 2) (N := some 34) (v := ?_) (a' := ?_) (ar 7 3) rfl rfl (by kernel_rfl) (fun _ _ _ h => h) (Or.inl ⟨by rfl, ?_⟩) ?_ ?_
                    rotate_left
                    ·intro w'
                     go_simp
                     with_reducible rfl
                    rotate_left
                    ·simp only [Act.put, List.setIfInBounds_toArray, List.set_cons_zero, List.set_cons_succ, i64_w, i32_w]
                     rfl
                    refine pure_ (i := 3) (N := some 35) (v := ?_) (a' := ?_) (ar 7 4) rfl rfl (by kernel_rfl) (fun _ _ _ h => h) (Or.inl ⟨by rfl, ?_⟩) ?_ ?_
                    rotate_left
                    ·intro w'
                     go_simp
                     with_reducible rfl
                    rotate_left
                    ·simp only [Act.put, List.setIfInBounds_toArray, List.set_cons_zero, List.set_cons_succ, i64_w, i32_w]
                     rfl
                    refine take_ (i := 4) (N := some 36) (v := ?_) (a' := ?_) (ar 7 5) rfl rfl (by kernel_rfl) (fun _ _ _ h => h) (Or.inl ⟨by rfl, ?_⟩) hHeld ?_ ?_
                    rotate_left
                    ·rintro w' ⟨s0, s1, s2, s3⟩
                     go_simp
                     with_reducible rfl
                    rotate_left
                    ·simp only [Act.put, List.setIfInBounds_toArray, List.set_cons_zero, List.set_cons_succ, i64_w, i32_w]
                     rfl
                    refine take_ (i := 5) (N := some 37) (v := ?_) (a' := ?_) (ar 7 6) rfl rfl (by kernel_rfl) (fun _ _ _ h => h) (Or.inl ⟨by rfl, ?_⟩) hHeld ?_ ?_
                    rotate_left
                    ·rintro w' ⟨s0, s1, s2, s3⟩
                     go_simp
                     with_reducible rfl
                    rotate_left
                    ·simp only [Act.put, List.setIfInBounds_toArray, List.set_cons_zero, List.set_cons_succ, i64_w, i32_w]
                     rfl
                    refine one_ (i := 6) (N := some 38) (ar 7 7) rfl rfl (by kernel_rfl) (by decide) (fun K hK => ?_)
                    refine goesv_ Try.func20 (by kernel_rfl) rfl #[.agg #[.int .i64 ((rd_T27 l0 x5_1).f0), .int .i64 ((rd_T27 l0 x5_1).f1)], .agg #[.int .i64 ((rd_T27 y106 x27_2).f0), .int .i64 ((rd_T27 y106 x27_2).f1)]] (by rfl) rfl ⟨rfl, rfl⟩ (by (try simp only [List.map_toArray, List.map_cons, List.map_nil]); first | done | rfl | (simp only [List.length_drop, List.length_take]; rfl)) ?_
                    with_reducible refine (patience_Longest_1.calls ((rd_T27 l0 x5_1).f0) ((rd_T27 l0 x5_1).f1) ((rd_T27 y106 x27_2).f0) ((rd_T27 y106 x27_2).f1) true _ A16.out).mono ?_
                    rintro e w28 ⟨rfl, hb⟩
                    refine ⟨_, rfl, ?_⟩
                    have n0_ := Aside0.mk (Kd.R_below (by (with_reducible repeat (first | apply Kd.R_alloc | apply Kd.R_drewN | apply Kd.R_drew)); exact HO_3.out) hb)
                    have n1_ := Aside0.mk (blk_below (g := gb111) (o := .cells #[.int .i64 ((rd_T27 y106 x27_2).f0), .int .i64 ((rd_T27 y106 x27_2).f1)] 27 (0, 0)) (by (with_reducible repeat (first | refine blk_drewN ?_ _ | refine blk_drew ?_ | refine blk_alloc ?_ _)); exact BK111.out) hb)
                    have n2_ := Aside0.mk (below_step (by repeat (first | (with_reducible first | exact HB.out | apply below_alloc | apply pw_below_drewN | apply below_drew1 | refine below_set ?_ GE111.out) | exact HB.out)) hb)
                    clear HO_3
                    clear BK111
                    clear HB
                    have HO_3 := n0_
                    have BK111 := n1_
                    have HB := n2_
                    clear n0_ n1_ n2_
                    (try clear hb)
                    (try clear hb2)
                    (try clear hk)
                    (try clear hi)
                    refine hK.out _ _ ⟨(blk_cell BK111.out 0).trans rfl, (blk_cell BK111.out 1).trans rfl, ((HB.out.cell (World.block_lt_of_cell? w _ hw112_0)).trans hw112_0), ((HB.out.cell (World.block_lt_of_cell? w _ hw112_1)).trans hw112_1)⟩ (fun hHeld => ?_)
                    clear hK K
                    refine norm_ (a' := ?_) ?_ ?_
                    rotate_left
                    ·show Act.put _ (some 38) _ = _
                     simp only [Act.put, List.setIfInBounds_toArray, List.set_cons_zero, List.set_cons_succ, i64_w, i32_w]
                     rfl
                    refine done_ (by kernel_rfl) ?_
                    try go_wp2
                    have n0_ := Aside0.mk (Kd.R_drew HO_3.out)
                    have n1_ := Aside0.mk (blk_drew BK111.out)
                    have n2_ := Aside0.mk (below_drew1 HB.out)
                    clear HO_3
                    clear BK111
                    clear HB
                    have HO_3 := n0_
                    have BK111 := n1_
                    have HB := n2_
                    clear n0_ n1_ n2_
                    obtain ⟨Ao30, co30, eo30⟩ := Kd.R_slice HO_3.out
                    (first | subst eo30 | (injection eo30 with f1_ f2_ f3_; have f4_ := f1_.symm; have f5_ := f3_.symm; clear f1_ f2_ f3_; subst f4_; subst f5_))
                    have p114 : 0 ≤ (x5_1 : Int) := of_decide_eq_true (by first | (with_reducible assumption) | assumption)
                    have q114 : x5_1 < (x3_2.length : Int) := of_decide_eq_true (by first | (with_reducible assumption) | assumption)
                    obtain ⟨ad114, e114, hx114_0⟩ := Kd.at_int (Kd.R_reads' HO_3.out).2.2 x5_1 p114 q114
                    cases e114
                    replace p114 := eq_true p114
                    replace q114 := eq_true q114
                    have p115 : 0 ≤ ((ji19) : Int) := of_decide_eq_true (by first | (with_reducible assumption) | assumption)
                    have q115 : (ji19) < (x3_2.length : Int) := of_decide_eq_true (by first | (with_reducible assumption) | assumption)
                    obtain ⟨ad115, e115, hx115_0⟩ := Kd.at_int (Kd.R_reads' HO_3.out).2.2 (ji19) p115 q115
                    obtain rfl : ad114 = ad115 := (by injection e115)
                    replace p115 := eq_true p115
                    replace q115 := eq_true q115
                    have p23 : 0 ≤ (x5_1 : Int) := of_decide_eq_true (by first | (with_reducible assumption) | assumption)
                    have q23 : (x5_1 : Int) < ((x3_2.length : Int) : Int) := of_decide_eq_true (by first | (with_reducible assumption) | assumption)
                    obtain ⟨go23, co23, eo23, gb23, gl23, cl23, HG23⟩ := Kd.R_form HO_3.out (by omega)
                    (first | cases eo23 | (injection eo23 with ea_ en_ ec_; (first | subst ea_ | (injection ea_ with ea_; subst ea_)); subst ec_; clear en_))
                    have GB23 := Aside0.mk gb23
                    have GG23 := Aside0.mk HG23
                    clear gb23 gl23 HG23
                    (first | simp only [add_plain] at hx114_0 | skip)
                    (first | simp only [add_plain] at hx115_0 | skip)
                    obtain ⟨hx23_0, hf23_0⟩ := Kd.R_celln 0 HO_3.out (x5_1 : Int) p23 q23
                    replace p23 := eq_true p23
                    replace q23 := eq_true q23
                    have HP31 := Kd.R_putn HO_3.out (x5_1 : Int) ji22
                    rw [← Ny116.out] at HP31
                    have HQ31 := Aside0.mk HP31
                    clear HP31
                    refine start_ (n := 16) (S := fun w' => w'.cell? ⟨go23, (x5_1).toNat, none⟩ = some (.int .i64 (rd x3_2 x5_1)) ∧ w'.cell? ⟨go23, ((ji19)).toNat, none⟩ = some (.int .i64 (rd x3_2 (ji19)))) (ds := [15]) #[false, false, false, false, false, false, false, false, false, false, false, false, false, false, false, false] (by kernel_rfl) rfl rfl ⟨hx114_0, hx115_0⟩ (fun hHeld => ?_); refine with_tabW patience_Longest.tab10 patience_Longest.bits10 (fun HT_ HW_ => ?_)
                    generalize w28.drew = w29 at HO_3 BK111 HB GG23 HQ31 hf23_0 hx114_0 hx115_0 hx23_0 hHeld ⊢
                    refine pw_ 0 39 (ar 16 1) HT_.out ?_
                    refine pw_ 1 40 (ar 16 2) HT_.out ?_
                    refine pw_ 2 41 (ar 16 3) HT_.out ?_
                    refine pw_ 3 42 (ar 16 4) HT_.out ?_
                    refine pw_ 4 43 (ar 16 5) HT_.out ?_
                    refine pw_ 6 45 #[true, true, true, true, true, false, true, false, false, false, false, false, false, false, false, false] HT_.out ?_
                    refine pw_ 7 46 #[true, true, true, true, true, false, true, true, false, false, false, false, false, false, false, false] HT_.out ?_
                    refine pw_ 8 47 #[true, true, true, true, true, false, true, true, true, false, false, false, false, false, false, false] HT_.out ?_
                    refine pw_ 9 48 #[true, true, true, true, true, false, true, true, true, true, false, false, false, false, false, false] HT_.out ?_
                    refine pw_ 10 49 #[true, true, true, true, true, false, true, true, true, true, true, false, false, false, false, false] HT_.out ?_
                    refine pw_ 11 50 #[true, true, true, true, true, false, true, true, true, true, true, true, false, false, false, false] HT_.out ?_
                    refine take_ (i := 5) (N := some 44) (v := ?_) (a' := ?_) (ar 16 12) rfl rfl (take_ofW HT_.out HW_.out (by kernel_rfl)) (fun _ _ _ h => h) (Or.inl ⟨by rfl, ?_⟩) hHeld ?_ ?_
                    rotate_left
                    ·rintro w' ⟨s0, s1⟩
                     go_simp
                     with_reducible rfl
                    rotate_left
                    ·simp only [Act.put, List.setIfInBounds_toArray, List.set_cons_zero, List.set_cons_succ, i64_w, i32_w]
                     rfl
                    refine take_ (i := 12) (N := some 51) (v := ?_) (a' := ?_) (ar 16 13) rfl rfl (take_ofW HT_.out HW_.out (by kernel_rfl)) (fun _ _ _ h => h) (Or.inl ⟨by rfl, ?_⟩) hHeld ?_ ?_
                    rotate_left
                    ·rintro w' ⟨s0, s1⟩
                     go_simp
                     with_reducible rfl
                    rotate_left
                    ·simp only [Act.put, List.setIfInBounds_toArray, List.set_cons_zero, List.set_cons_succ, i64_w, i32_w]
                     rfl
                    refine pw_ 13 52 (ar 16 14) HT_.out ?_
                    refine pw_ 14 53 (ar 16 15) HT_.out ?_
                    refine last_ (i := 15) (N := none) (ar 16 16) rfl rfl (one_of HT_.out (by kernel_rfl)) (by decide) (fun K hK => ?_)
                    refine skip_ (w1 := ?_) (by rfl) rfl ?_ ?_
                    rotate_left
                    ·go_simp
                     rfl
                    refine hK.out _ _ ?_
                    clear hK K
                    refine done_ (done_of HT_.out (by kernel_rfl)) ?_
                    try go_wp2
                    go_roundg k2
                    case measure => have := HK1.out; have := HK2.out; omega
                    case rel => exact ⟨(y116), (wrap64 (x27_2 + 1)), (by first | rfl | (simp; done) | (simp [*]; done)), H', ⟨by have := HK1.out; have := HK2.out; omega⟩, ⟨by (with_reducible repeat (first | apply Kd.R_alloc | apply Kd.R_drewN | apply Kd.R_drew)); exact HQ31.out⟩, ⟨by repeat (first | (with_reducible first | exact HB.out | apply below_alloc | apply pw_below_drewN | apply below_drew1 | refine below_set ?_ GB23.out | refine below_set ?_ GE111.out) | exact HB.out)⟩⟩
                   ·rw [if_neg c21] at H
                    exact absurd H (by simp)
                  ·rw [if_neg c20] at H
                   exact absurd H (by simp)
                 ·rw [if_neg c18] at H
                  exact absurd H (by simp)
                ·replace c17 := Bool.eq_false_iff.mpr c17
                 subst c17
                 have H1 : (patience_Longest.l1 k2 l0 x3_2 x5_1 y106 (y106.length : Int) (wrap64 (x27_2 + 1))) = some r := by rw [if_neg (show ¬ (false = true) by decide)] at H; exact H
                 clear H
                 have H := H1
                 clear H1
                 have H' := Aside0.mk H
                 clear H
                 have p110 : 0 ≤ (x27_2 : Int) := of_decide_eq_true (by first | (with_reducible assumption) | assumption)
                 have q110 : x27_2 < (y106.length : Int) := of_decide_eq_true (by first | (with_reducible assumption) | assumption)
                 obtain ⟨ad110, e110, hx110_0, hx110_1⟩ := at_T27 HR109.out x27_2 p110 q110
                 cases e110
                 replace hx110_0 := (HB.out.cell (World.block_lt_of_cell? w _ hx110_0)).trans hx110_0
                 replace hx110_1 := (HB.out.cell (World.block_lt_of_cell? w _ hx110_1)).trans hx110_1
                 replace p110 := eq_true p110
                 replace q110 := eq_true q110
                 try go_wp2_with (first | ((with_reducible refine gate_dst (N := 7) rfl ?_); (try (refine gate_guard (by rfl) ?_; dsimp only)); refine box_event ?hg (N := 7) ?hd (cs := #[.int .i64 0, .int .i64 0]) (t := 27) ?hr ?_; (case hd => rfl); (case hg => rfl); (case hr => first | (go_simp; done) | (go_simp; rfl)); intro gb111 hg w32 hbox hb; have n0_ := Aside0.mk (Kd.R_below (by (with_reducible repeat (first | apply Kd.R_alloc | apply Kd.R_drewN | apply Kd.R_drew)); exact HO_3.out) hb); have n1_ := Aside0.mk (below_step (by repeat (first | (with_reducible first | exact HB.out | apply below_alloc | apply pw_below_drewN | apply below_drew1) | exact HB.out)) hb); have n2_ := Aside0.mk (hbox); have n3_ := Aside0.mk ((by rw [hg]; exact (below_size (by repeat (first | (with_reducible first | exact HB.out | apply below_alloc | apply pw_below_drewN | apply below_drew1) | exact HB.out))) : w.heap.size ≤ gb111)); have n4_ := Aside0.mk ((by rw [hg]; exact (below_size (by repeat (first | (with_reducible first | exact HB.out | apply below_alloc | apply pw_below_drewN | apply below_drew1) | exact HB.out))) : w.heap.size ≤ gb111)); clear HO_3; clear HB; have HO_3 := n0_; have HB := n1_; have BK111 := n2_; have GW111 := n3_; have GE111 := n4_; clear n0_ n1_ n2_ n3_ n4_; clear hb hbox hg; have hcz33_0 : w32.cell? ⟨gb111, 0, none⟩ = some (.int .i64 0) := (blk_cell BK111.out 0).trans rfl; have hcz33_1 : w32.cell? ⟨gb111, 1, none⟩ = some (.int .i64 0) := (blk_cell BK111.out 1).trans rfl; have hfz33_0 := blk_frozen BK111.out 0; have hfz33_1 := blk_frozen BK111.out 1))
                 have n0_ : Aside0 (Kd.R (Kd.int .i64) 3 ((w32.setCell ⟨gb111, 0, none⟩ (.int .i64 ((rd_T27 y106 x27_2).f0))).setCell ⟨gb111, 1, none⟩ (.int .i64 ((rd_T27 y106 x27_2).f1))) w.heap.size (fun _ => True) v104 x3_2) := ⟨by (with_reducible repeat (first | apply Kd.R_alloc | apply Kd.R_drewN | apply Kd.R_drew)); exact Kd.R_mono (Kd.R_far (p := ⟨gb111, 1, none⟩) (Kd.R_far (p := ⟨gb111, 0, none⟩) (Kd.R_types HO_3.out BK111.out (by decide)) (fun _ hk => hk.2) (.int .i64 ((rd_T27 y106 x27_2).f0))) (fun _ hk => hk.2) (.int .i64 ((rd_T27 y106 x27_2).f1))) (fun _ hk => trivial)⟩
                 have n1_ : Aside0 (((w32.setCell ⟨gb111, 0, none⟩ (.int .i64 ((rd_T27 y106 x27_2).f0))).setCell ⟨gb111, 1, none⟩ (.int .i64 ((rd_T27 y106 x27_2).f1))).heap[gb111]? = some (.cells #[.int .i64 ((rd_T27 y106 x27_2).f0), .int .i64 ((rd_T27 y106 x27_2).f1)] 27 (0, 0))) := ⟨by (with_reducible repeat (first | refine blk_drewN ?_ _ | refine blk_drew ?_ | refine blk_alloc ?_ _)); refine blk_put (cs := #[.int .i64 ((rd_T27 y106 x27_2).f0), .int .i64 0]) ?_ 1 _ rfl; (with_reducible repeat (first | refine blk_drewN ?_ _ | refine blk_drew ?_ | refine blk_alloc ?_ _)); refine blk_put (cs := #[.int .i64 0, .int .i64 0]) ?_ 0 _ rfl; (with_reducible repeat (first | refine blk_drewN ?_ _ | refine blk_drew ?_ | refine blk_alloc ?_ _)); exact BK111.out⟩
                 have n2_ : Aside0 (Below w.heap.size w ((w32.setCell ⟨gb111, 0, none⟩ (.int .i64 ((rd_T27 y106 x27_2).f0))).setCell ⟨gb111, 1, none⟩ (.int .i64 ((rd_T27 y106 x27_2).f1)))) := ⟨by repeat (first | (with_reducible first | exact HB.out | apply below_alloc | apply pw_below_drewN | apply below_drew1 | refine below_set ?_ GE111.out) | exact HB.out)⟩
                 (try clear HO_3)
                 (try clear BK111)
                 (try clear HB)
                 generalize ((w32.setCell ⟨gb111, 0, none⟩ (.int .i64 ((rd_T27 y106 x27_2).f0))).setCell ⟨gb111, 1, none⟩ (.int .i64 ((rd_T27 y106 x27_2).f1))) = w34 at n0_ n1_ n2_ ⊢
                 have HO_3 := n0_
                 have BK111 := n1_
                 have HB := n2_
                 clear n0_ n1_ n2_
                 have n0_ := Aside0.mk (Kd.R_drew HO_3.out)
                 have n1_ := Aside0.mk (blk_drew BK111.out)
                 have n2_ := Aside0.mk (below_drew1 HB.out)
                 clear HO_3
                 clear BK111
                 clear HB
                 have HO_3 := n0_
                 have BK111 := n1_
                 have HB := n2_
                 clear n0_ n1_ n2_
                 have p112 : 0 ≤ (x5_1 : Int) := of_decide_eq_true (by first | (with_reducible assumption) | assumption)
                 have q112 : x5_1 < (l0.length : Int) := of_decide_eq_true (by first | (with_reducible assumption) | assumption)
                 obtain ⟨ad112, e112, hx112_0, hx112_1⟩ := at_T27 HR0.out x5_1 p112 q112
                 have hw112_1 := hx112_1
                 have hw112_0 := hx112_0
                 cases e112
                 replace hx112_0 := (HB.out.cell (World.block_lt_of_cell? w _ hx112_0)).trans hx112_0
                 replace hx112_1 := (HB.out.cell (World.block_lt_of_cell? w _ hx112_1)).trans hx112_1
                 replace p112 := eq_true p112
                 replace q112 := eq_true q112
                 refine start_ (n := 7) (S := fun w' => w'.cell? ⟨gb111, 0, none⟩ = some (.int .i64 ((rd_T27 y106 x27_2).f0)) ∧ w'.cell? ⟨gb111, 1, none⟩ = some (.int .i64 ((rd_T27 y106 x27_2).f1)) ∧ w'.cell? (ad112.add ((x5_1).toNat * 2)) = some (.int .i64 ((rd_T27 l0 x5_1).f0)) ∧ w'.cell? ⟨(ad112.add ((x5_1).toNat * 2)).block, (ad112.add ((x5_1).toNat * 2)).off + 1, none⟩ = some (.int .i64 ((rd_T27 l0 x5_1).f1))) (ds := []) #[false, false, false, false, false, false, false] (by kernel_rfl) rfl rfl ⟨(blk_cell BK111.out 0).trans rfl, (blk_cell BK111.out 1).trans rfl, ((HB.out.cell (World.block_lt_of_cell? w _ hw112_0)).trans hw112_0), ((HB.out.cell (World.block_lt_of_cell? w _ hw112_1)).trans hw112_1)⟩ (fun hHeld => ?_)
                 generalize w34.drew = w35 at HO_3 BK111 HB hx112_0 hx112_1 hHeld ⊢
                 refine pure_ (i := 0) (N := some 32) (v := ?_) (a' := ?_) (ar 7 1) rfl rfl (by kernel_rfl) (fun _ _ _ h => h) (Or.inl ⟨by rfl, ?_⟩) ?_ ?_
                 rotate_left
                 ·intro w'
                  go_simp
                  with_reducible rfl
                 rotate_left
                 ·simp only [Act.put, List.setIfInBounds_toArray, List.set_cons_zero, List.set_cons_succ, i64_w, i32_w]
                  rfl
                 refine pure_ (i := 1) (N := some 33) (v := ?_) (a' := ?_) (ar 7 2) rfl rfl (by kernel_rfl) (fun _ _ _ h => h) (Or.inl ⟨by rfl, ?_⟩) ?_ ?_
                 rotate_left
                 ·intro w'
                  go_simp
                  with_reducible rfl
                 rotate_left
                 ·simp only [Act.put, List.setIfInBounds_toArray, List.set_cons_zero, List.set_cons_succ, i64_w, i32_w]
                  rfl
                 refine pure_ (i := 2) (N := some 34) (v := ?_) (a' := ?_) (ar 7 3) rfl rfl (by kernel_rfl) (fun _ _ _ h => h) (Or.inl ⟨by rfl, ?_⟩) ?_ ?_
                 rotate_left
                 ·intro w'
                  go_simp
                  with_reducible rfl
                 rotate_left
                 ·simp only [Act.put, List.setIfInBounds_toArray, List.set_cons_zero, List.set_cons_succ, i64_w, i32_w]
                  rfl
                 refine pure_ (i := 3) (N := some 35) (v := ?_) (a' := ?_) (ar 7 4) rfl rfl (by kernel_rfl) (fun _ _ _ h => h) (Or.inl ⟨by rfl, ?_⟩) ?_ ?_
                 rotate_left
                 ·intro w'
                  go_simp
                  with_reducible rfl
                 rotate_left
                 ·simp only [Act.put, List.setIfInBounds_toArray, List.set_cons_zero, List.set_cons_succ, i64_w, i32_w]
                  rfl
                 refine take_ (i := 4) (N := some 36) (v := ?_) (a' := ?_) (ar 7 5) rfl rfl (by kernel_rfl) (fun _ _ _ h => h) (Or.inl ⟨by rfl, ?_⟩) hHeld ?_ ?_
                 rotate_left
                 ·rintro w' ⟨s0, s1, s2, s3⟩
                  go_simp
                  with_reducible rfl
                 rotate_left
                 ·simp only [Act.put, List.setIfInBounds_toArray, List.set_cons_zero, List.set_cons_succ, i64_w, i32_w]
                  rfl
                 refine take_ (i := 5) (N := some 37) (v := ?_) (a' := ?_) (ar 7 6) rfl rfl (by kernel_rfl) (fun _ _ _ h => h) (Or.inl ⟨by rfl, ?_⟩) hHeld ?_ ?_
                 rotate_left
                 ·rintro w' ⟨s0, s1, s2, s3⟩
                  go_simp
                  with_reducible rfl
                 rotate_left
                 ·simp only [Act.put, List.setIfInBounds_toArray, List.set_cons_zero, List.set_cons_succ, i64_w, i32_w]
                  rfl
                 refine one_ (i := 6) (N := some 38) (ar 7 7) rfl rfl (by kernel_rfl) (by decide) (fun K hK => ?_)
                 refine goesv_ Try.func20 (by kernel_rfl) rfl #[.agg #[.int .i64 ((rd_T27 l0 x5_1).f0), .int .i64 ((rd_T27 l0 x5_1).f1)], .agg #[.int .i64 ((rd_T27 y106 x27_2).f0), .int .i64 ((rd_T27 y106 x27_2).f1)]] (by rfl) rfl ⟨rfl, rfl⟩ (by (try simp only [List.map_toArray, List.map_cons, List.map_nil]); first | done | rfl | (simp only [List.length_drop, List.length_take]; rfl)) ?_
                 with_reducible refine (patience_Longest_1.calls ((rd_T27 l0 x5_1).f0) ((rd_T27 l0 x5_1).f1) ((rd_T27 y106 x27_2).f0) ((rd_T27 y106 x27_2).f1) false _ A16.out).mono ?_
                 rintro e w36 ⟨rfl, hb⟩
                 refine ⟨_, rfl, ?_⟩
                 have n0_ := Aside0.mk (Kd.R_below (by (with_reducible repeat (first | apply Kd.R_alloc | apply Kd.R_drewN | apply Kd.R_drew)); exact HO_3.out) hb)
                 have n1_ := Aside0.mk (blk_below (g := gb111) (o := .cells #[.int .i64 ((rd_T27 y106 x27_2).f0), .int .i64 ((rd_T27 y106 x27_2).f1)] 27 (0, 0)) (by (with_reducible repeat (first | refine blk_drewN ?_ _ | refine blk_drew ?_ | refine blk_alloc ?_ _)); exact BK111.out) hb)
                 have n2_ := Aside0.mk (below_step (by repeat (first | (with_reducible first | exact HB.out | apply below_alloc | apply pw_below_drewN | apply below_drew1 | refine below_set ?_ GE111.out) | exact HB.out)) hb)
                 clear HO_3
                 clear BK111
                 clear HB
                 have HO_3 := n0_
                 have BK111 := n1_
                 have HB := n2_
                 clear n0_ n1_ n2_
                 (try clear hb)
                 (try clear hb2)
                 (try clear hk)
                 (try clear hi)
                 refine hK.out _ _ ⟨(blk_cell BK111.out 0).trans rfl, (blk_cell BK111.out 1).trans rfl, ((HB.out.cell (World.block_lt_of_cell? w _ hw112_0)).trans hw112_0), ((HB.out.cell (World.block_lt_of_cell? w _ hw112_1)).trans hw112_1)⟩ (fun hHeld => ?_)
                 clear hK K
                 refine norm_ (a' := ?_) ?_ ?_
                 rotate_left
                 ·show Act.put _ (some 38) _ = _
                  simp only [Act.put, List.setIfInBounds_toArray, List.set_cons_zero, List.set_cons_succ, i64_w, i32_w]
                  rfl
                 refine done_ (by kernel_rfl) ?_
                 try go_wp2
                 go_roundg k2
                 case measure => have := HK1.out; have := HK2.out; omega
                 case rel => exact ⟨(x3_2), (wrap64 (x27_2 + 1)), (by first | rfl | (simp; done) | (simp [*]; done)), H', ⟨by have := HK1.out; have := HK2.out; omega⟩, ⟨by (with_reducible repeat (first | apply Kd.R_alloc | apply Kd.R_drewN | apply Kd.R_drew)); exact HO_3.out⟩, ⟨by repeat (first | (with_reducible first | exact HB.out | apply below_alloc | apply pw_below_drewN | apply below_drew1 | refine below_set ?_ GE111.out) | exact HB.out)⟩⟩
               ·rw [if_neg c15] at H
                exact absurd H (by simp)
              ·rw [if_neg c14] at H
               exact absurd H (by simp)
             ·rw [if_neg c13] at H
              exact absurd H (by simp)
            ·rw [if_neg c12] at H
             exact absurd H (by simp)
           ·rw [if_neg c11] at H
            have c11b0 : decide (x27_2 < (y106.length : Int)) = false := decide_eq_false c11
            clear c11
            by_cases c37 : 0 ≤ x5_1
            ·rw [if_pos c37] at H
             have c37b0 : decide (0 ≤ x5_1) = true := decide_eq_true c37
             clear c37
             by_cases c38 : x5_1 < (x3_2.length : Int)
             ·rw [if_pos c38] at H
              have c38b0 : decide (x5_1 < (x3_2.length : Int)) = true := decide_eq_true c38
              clear c38
              obtain ⟨y118, hy118⟩ : ∃ y_ : List Int, y_ = (x3_2.set (x5_1 : Int).toNat (wrap64 ((rd x3_2 x5_1) + 1))) := ⟨_, rfl⟩
              replace H : (patience_Longest.l0 k2 l0 y118 (wrap64 (x5_1 - 1))) = some r := by first | (rw [hy118]; with_reducible exact H) | (have H2_ := (Option.bind_some _ _).symm.trans H; rw [hy118]; with_reducible exact H2_) | (have H2_ := (Option.bind_some _ _).symm.trans H; with_reducible exact H2_) | with_reducible exact H | (rw [hy118]; exact H) | exact H
              have Ny118 := Aside0.mk hy118
              clear hy118
              have H' := Aside0.mk H
              clear H
              obtain ⟨Ao40, co40, eo40⟩ := Kd.R_slice HO_3.out
              subst eo40
              have p117 : 0 ≤ (x5_1 : Int) := of_decide_eq_true (by first | (with_reducible assumption) | assumption)
              have q117 : x5_1 < (x3_2.length : Int) := of_decide_eq_true (by first | (with_reducible assumption) | assumption)
              obtain ⟨ad117, e117, hx117_0⟩ := Kd.at_int (Kd.R_reads' HO_3.out).2.2 x5_1 p117 q117
              cases e117
              replace p117 := eq_true p117
              replace q117 := eq_true q117
              have p39 : 0 ≤ (x5_1 : Int) := of_decide_eq_true (by first | (with_reducible assumption) | assumption)
              have q39 : (x5_1 : Int) < ((x3_2.length : Int) : Int) := of_decide_eq_true (by first | (with_reducible assumption) | assumption)
              obtain ⟨go39, co39, eo39, gb39, gl39, cl39, HG39⟩ := Kd.R_form HO_3.out (by omega)
              (first | cases eo39 | (injection eo39 with ea_ en_ ec_; (first | subst ea_ | (injection ea_ with ea_; subst ea_)); subst ec_; clear en_))
              have GB39 := Aside0.mk gb39
              have GG39 := Aside0.mk HG39
              clear gb39 gl39 HG39
              (first | simp only [add_plain] at hx117_0 | skip)
              obtain ⟨hx39_0, hf39_0⟩ := Kd.R_celln 0 HO_3.out (x5_1 : Int) p39 q39
              replace p39 := eq_true p39
              replace q39 := eq_true q39
              have HP41 := Kd.R_putg HO_3.out (x5_1 : Int) (wrap64 ((rd x3_2 x5_1) + 1))
              go_wp2_with (first | ((with_reducible refine gate_store (t := 3) (p := 60) rfl ?_); refine store_event (t := 3) (p := 60) (v := ?vo_w42) (w1 := (wr.setCell ⟨go39, (x5_1 : Int).toNat, none⟩ (.int .i64 (wrap64 ((rd x3_2 x5_1) + 1))))) ?hg ?ho ?hn ?hr ?_; (case ho => rfl); (case hg => rfl); (case hn => rfl); (case hr => first | (go_simp; done) | (go_simp; rfl)); intro w42 hw; have hg : wr.grownBy w42 (some go39) := (by rw [hw]; exact HP41.2); have hp_ : Kd.R (Kd.int .i64) 3 w42 w.heap.size (fun _ => True) (.slice (some ⟨go39, 0, none⟩) x3_2.length co40) y118 := (by rw [hw, Ny118.out]; exact HP41.1); clear HP41; have n0_ := Aside0.mk (hp_); have n1_ := Aside0.mk ((by rw [hw]; exact below_set (HB.out) GB39.out : Below w.heap.size w w42)); clear HO_3; clear HB; have HO_3 := n0_; have HB := n1_; clear n0_ n1_; clear hg hw hp_))
              go_roundg k2
              case measure => have := HK1.out; have := HK2.out; omega
              case rel => exact ⟨(y118), (wrap64 (x5_1 - 1)), (by first | rfl | (simp; done) | (simp [*]; done)), H', ⟨by have := HK1.out; have := HK2.out; omega⟩, ⟨by (with_reducible repeat (first | apply Kd.R_alloc | apply Kd.R_drewN | apply Kd.R_drew)); exact HO_3.out⟩, ⟨by repeat (first | (with_reducible first | exact HB.out | apply below_alloc | apply pw_below_drewN | apply below_drew1) | exact HB.out)⟩⟩
             ·rw [if_neg c38] at H
              exact absurd H (by simp)
            ·rw [if_neg c37] at H
             exact absurd H (by simp)
        ·rw [if_neg c9] at H
         exact absurd H (by simp)
       ·rw [if_neg c8] at H
        exact absurd H (by simp)
      ·rw [if_neg c6] at H
       have c6b0 : decide (0 ≤ x5_1) = false := decide_eq_false c6
       clear c6
       by_cases c43 : (l0.length : Int) = 0
       ·rw [if_pos c43] at H
        have c43b0 : ((l0.length : Int) == 0) = true := beq_iff_eq.mpr c43
        have c43b1 : ((l0.length : Int) != 0) = false := bne_eq_false_iff_eq.mpr c43
        clear c43
        obtain rfl := Option.some.inj H
        go_wp2
        go_ret
        exact ⟨_, by first | rfl | (simp [errW_none, errW_some] <;> rfl) | (simp [*, errW_none, errW_some] <;> rfl), by first | exact Kd.R_nil _ _ _ _ _ | exact Kd.N_nil _ _ _ _ _ | exact Kd.V_nil _ _ _ _ _ | exact Kd.Q_nil _ _ _ _ _ | exact Kd.S_nil _ _ _ _ _, by repeat (first | (with_reducible first | exact HB.out | apply below_alloc | apply pw_below_drewN | apply below_drew1) | exact HB.out)⟩
       ·rw [if_neg c43] at H
        have c43b0 : ((l0.length : Int) == 0) = false := beq_eq_false_iff_ne.mpr c43
        have c43b1 : ((l0.length : Int) != 0) = true := bne_iff_ne.mpr c43
        have c43b2 : ¬ (l0 = []) := fun h_ => c43 (by rw [h_]; rfl)
        replace H := Option.bind_eq_some_iff.mp H
        obtain ⟨t119, A440, H⟩ := H
        replace H : (patience_Longest.l2 k1 x3_1 ([] : List (S27)) t119 l0 (l0.length : Int) 0) = some r := H
        have A44 := Aside0.mk A440
        clear A440
        have H' := Aside0.mk H
        clear H
        obtain ⟨Ao45, co45, eo45⟩ := Kd.R_slice HO_3.out
        subst eo45
        go_wp2_with (first | ((with_reducible refine gate_callee (f := 21) rfl ?_); refine goesL_ (some 65) rfl rfl Try.func21 (by kernel_rfl) rfl #[.slice Ao45 x3_1.length co45] rfl (by (try simp only [List.map_toArray, List.map_cons, List.map_nil]); first | done | rfl | (simp only [List.length_drop, List.length_take]; rfl)) ?_; (with_reducible refine (slices_Max_int_int.calls _ _ x3_1 t119 _ ?side1 ?side2 A44.out).mono ?_); (case side1 => repeat (first | exact (Kd.R_reads' HO_3.out).2.2 | (with_reducible refine Kd.C_alloc ?_ _) | (with_reducible refine Kd.C_drewN ?_ _) | (with_reducible refine Kd.C_drew ?_))); (case side2 => exact (Kd.R_reads' HO_3.out).2.1); rintro e w' ⟨rfl, ⟨nd, rfl⟩⟩; refine ⟨_, rfl, ?_⟩))
        go_loopg [8, 9, 68] k1 (fun kq v8 v9 v68 w' => ∃ (x8_2 : List (S27)) (x9_2 : Int) (x68_2 : Int), v9 = .int .i64 x9_2 ∧ v68 = .int .i64 x68_2 ∧ Aside0 (patience_Longest.l2 kq x3_1 x8_2 x9_2 l0 (l0.length : Int) x68_2 = some r) ∧ Aside0 (kq ≤ k1) ∧ Aside0 (Kd.R (Kd.int .i64) 3 w' w.heap.size (fun _ => True) (.slice Ao45 x3_1.length co45) x3_1) ∧ Aside0 (Kd.R k27 27 w' w.heap.size (fun _ => True) v8 x8_2) ∧ Aside0 (Below w.heap.size w w'))
        case atStart => exact ⟨(([] : List (S27))), (t119), (0), (by first | rfl | (simp; done) | (simp [*]; done)), (by first | rfl | (simp; done) | (simp [*]; done)), H', ⟨Nat.le_refl _⟩, ⟨by (with_reducible repeat (first | apply Kd.R_alloc | apply Kd.R_drewN | apply Kd.R_drew)); exact HO_3.out⟩, ⟨by first | exact Kd.R_nil _ _ _ _ _ | exact Kd.N_nil _ _ _ _ _ | exact Kd.V_nil _ _ _ _ _ | exact Kd.Q_nil _ _ _ _ _ | exact Kd.S_nil _ _ _ _ _⟩, ⟨by repeat (first | (with_reducible first | exact HB.out | apply below_alloc | apply pw_below_drewN | apply below_drew1) | exact HB.out)⟩⟩
        case round =>
         clear H'
         try clear c1
         try clear p1
         try clear q1
         try clear hx1
         try clear c2
         try clear c2b0
         try clear c2b1
         try clear p2
         try clear q2
         try clear hx2
         try clear hf2
         try clear c3
         try clear c3b0
         try clear c3b1
         try clear p3
         try clear q3
         try clear hx3
         try clear hf3
         try clear c4
         try clear c6
         try clear c6b0
         try clear p6
         try clear c7
         try clear c8
         try clear c8b0
         try clear c8b1
         try clear c9
         try clear c9b0
         try clear c9b1
         try clear c10
         try clear q10
         try clear c11
         try clear c11b0
         try clear p11
         try clear q11
         try clear hx11
         try clear c12
         try clear c12b0
         try clear c13
         try clear c13b0
         try clear c14
         try clear c14b0
         try clear c15
         try clear c15b0
         try clear c17
         try clear c18
         try clear c18b0
         try clear c20
         try clear c20b0
         try clear c21
         try clear c21b0
         try clear p23
         try clear q23
         try clear hx23
         try clear hf23
         try clear c37
         try clear c37b0
         try clear c38
         try clear c38b0
         try clear p39
         try clear q39
         try clear hx39
         try clear hf39
         try clear c43
         try clear c43b0
         try clear c43b1
         try clear c43b2
         try clear hcz25_0
         try clear hcz25_1
         try clear hcz33_0
         try clear hcz33_1
         try clear hfz25_0
         try clear hfz25_1
         try clear hfz33_0
         try clear hfz33_1
         try clear hx110_0
         try clear hx110_1
         try clear hx112_0
         try clear hx112_1
         try clear hx114_0
         try clear hx115_0
         try clear hx117_0
         try clear hx23_0
         try clear hx39_0
         try clear p110
         try clear p112
         try clear p114
         try clear p115
         try clear p117
         try clear p2
         try clear p23
         try clear p39
         try clear p6
         try clear q010
         try clear q10
         try clear q110
         try clear q112
         try clear q114
         try clear q115
         try clear q117
         try clear q23
         try clear q39
         obtain ⟨x8_2, x9_2, x68_2, rfl, rfl, HA, HK2, HO_3, HO_8, HB⟩ := hrel
         cases gk with
         | zero => exact absurd HA.out (by simp [patience_Longest.l2])
         | succ k2 =>
          have H := HA.out
          clear HA
          simp only [patience_Longest.l2] at H
          by_cases c46 : x68_2 < (l0.length : Int)
          ·rw [if_pos c46] at H
           have c46b0 : decide (x68_2 < (l0.length : Int)) = true := decide_eq_true c46
           clear c46
           by_cases c47 : 0 ≤ x68_2
           ·rw [if_pos c47] at H
            have c47b0 : decide (0 ≤ x68_2) = true := decide_eq_true c47
            clear c47
            by_cases c48 : x68_2 < (l0.length : Int)
            ·rw [if_pos c48] at H
             have c48b0 : decide (x68_2 < (l0.length : Int)) = true := decide_eq_true c48
             clear c48
             by_cases c49 : x68_2 < (x3_1.length : Int)
             ·rw [if_pos c49] at H
              have c49b0 : decide (x68_2 < (x3_1.length : Int)) = true := decide_eq_true c49
              clear c49
              by_cases c50 : (rd x3_1 x68_2) = x9_2
              ·rw [if_pos c50] at H
               have c50b0 : ((rd x3_1 x68_2) == x9_2) = true := beq_iff_eq.mpr c50
               have c50b1 : ((rd x3_1 x68_2) != x9_2) = false := bne_eq_false_iff_eq.mpr c50
               clear c50
               by_cases c51 : (x8_2.length : Int) = 0
               ·rw [if_pos c51] at H
                have c51b0 : ((x8_2.length : Int) == 0) = true := beq_iff_eq.mpr c51
                have c51b1 : ((x8_2.length : Int) != 0) = false := bne_eq_false_iff_eq.mpr c51
                clear c51
                by_cases c52 : x8_2.length < 8796093022208
                ·rw [if_pos c52] at H
                 have LMc52 := Aside0.mk c52
                 clear c52
                 obtain ⟨y123, hy123⟩ : ∃ y_ : List (S27), y_ = (x8_2 ++ [(⟨(rd_T27 l0 x68_2).f0, (rd_T27 l0 x68_2).f1⟩ : S27)]) := ⟨_, rfl⟩
                 replace H : (patience_Longest.l2 k2 x3_1 y123 (wrap64 (x9_2 - 1)) l0 (l0.length : Int) (wrap64 (x68_2 + 1))) = some r := by first | (rw [hy123]; with_reducible exact H) | (have H2_ := (Option.bind_some _ _).symm.trans H; rw [hy123]; with_reducible exact H2_) | (have H2_ := (Option.bind_some _ _).symm.trans H; with_reducible exact H2_) | with_reducible exact H | (rw [hy123]; exact H) | exact H
                 have Ny123 := Aside0.mk hy123
                 clear hy123
                 have H' := Aside0.mk H
                 clear H
                 have p120 : 0 ≤ (x68_2 : Int) := of_decide_eq_true (by first | (with_reducible assumption) | assumption)
                 have q120 : x68_2 < (l0.length : Int) := of_decide_eq_true (by first | (with_reducible assumption) | assumption)
                 obtain ⟨ad120, e120, hx120_0, hx120_1⟩ := at_T27 HR0.out x68_2 p120 q120
                 cases e120
                 replace hx120_0 := (HB.out.cell (World.block_lt_of_cell? w _ hx120_0)).trans hx120_0
                 replace hx120_1 := (HB.out.cell (World.block_lt_of_cell? w _ hx120_1)).trans hx120_1
                 replace p120 := eq_true p120
                 replace q120 := eq_true q120
                 try go_wp2_with (first | ((with_reducible refine gate_dst (N := 11) rfl ?_); (try (refine gate_guard (by rfl) ?_; dsimp only)); refine box_event ?hg (N := 11) ?hd (cs := #[.int .i64 0, .int .i64 0]) (t := 27) ?hr ?_; (case hd => rfl); (case hg => rfl); (case hr => first | (go_simp; done) | (go_simp; rfl)); intro gb121 hg w53 hbox hb; have n0_ := Aside0.mk (Kd.R_below (by (with_reducible repeat (first | apply Kd.R_alloc | apply Kd.R_drewN | apply Kd.R_drew)); exact HO_3.out) hb); have n1_ := Aside0.mk (Kd.R_below (Kd.R_elderB (by (with_reducible repeat (first | apply Kd.R_alloc | apply Kd.R_drewN | apply Kd.R_drew)); exact HO_8.out) gb121 (Nat.le_of_eq hg.symm)) hb); have n2_ := Aside0.mk (below_step (by repeat (first | (with_reducible first | exact HB.out | apply below_alloc | apply pw_below_drewN | apply below_drew1) | exact HB.out)) hb); have n3_ := Aside0.mk (hbox); have n4_ := Aside0.mk ((by rw [hg]; exact (below_size (by repeat (first | (with_reducible first | exact HB.out | apply below_alloc | apply pw_below_drewN | apply below_drew1) | exact HB.out))) : w.heap.size ≤ gb121)); have n5_ := Aside0.mk ((by rw [hg]; exact (below_size (by repeat (first | (with_reducible first | exact HB.out | apply below_alloc | apply pw_below_drewN | apply below_drew1) | exact HB.out))) : w.heap.size ≤ gb121)); clear HO_3; clear HO_8; clear HB; have HO_3 := n0_; have HO_8 := n1_; have HB := n2_; have BK121 := n3_; have GW121 := n4_; have GE121 := n5_; clear n0_ n1_ n2_ n3_ n4_ n5_; clear hb hbox hg; have hcz54_0 : w53.cell? ⟨gb121, 0, none⟩ = some (.int .i64 0) := (blk_cell BK121.out 0).trans rfl; have hcz54_1 : w53.cell? ⟨gb121, 1, none⟩ = some (.int .i64 0) := (blk_cell BK121.out 1).trans rfl; have hfz54_0 := blk_frozen BK121.out 0; have hfz54_1 := blk_frozen BK121.out 1))
                 have n0_ : Aside0 (Kd.R (Kd.int .i64) 3 ((w53.setCell ⟨gb121, 0, none⟩ (.int .i64 ((rd_T27 l0 x68_2).f0))).setCell ⟨gb121, 1, none⟩ (.int .i64 ((rd_T27 l0 x68_2).f1))) w.heap.size (fun _ => True) (.slice Ao45 x3_1.length co45) x3_1) := ⟨by (with_reducible repeat (first | apply Kd.R_alloc | apply Kd.R_drewN | apply Kd.R_drew)); exact Kd.R_mono (Kd.R_far (p := ⟨gb121, 1, none⟩) (Kd.R_far (p := ⟨gb121, 0, none⟩) (Kd.R_types HO_3.out BK121.out (by decide)) (fun _ hk => hk.2) (.int .i64 ((rd_T27 l0 x68_2).f0))) (fun _ hk => hk.2) (.int .i64 ((rd_T27 l0 x68_2).f1))) (fun _ hk => trivial)⟩
                 have n1_ : Aside0 (Kd.R k27 27 ((w53.setCell ⟨gb121, 0, none⟩ (.int .i64 ((rd_T27 l0 x68_2).f0))).setCell ⟨gb121, 1, none⟩ (.int .i64 ((rd_T27 l0 x68_2).f1))) w.heap.size (fun k_ => k_ ≠ gb121) u8 x8_2) := ⟨by (with_reducible repeat (first | apply Kd.R_alloc | apply Kd.R_drewN | apply Kd.R_drew)); exact Kd.R_mono (Kd.R_far (p := ⟨gb121, 1, none⟩) (Kd.R_far (p := ⟨gb121, 0, none⟩) (Kd.R_mono HO_8.out (fun k_ hk => (⟨hk, hk.2⟩ : _ ∧ k_ ≠ gb121))) (fun _ hk => hk.2) (.int .i64 ((rd_T27 l0 x68_2).f0))) (fun _ hk => hk.2) (.int .i64 ((rd_T27 l0 x68_2).f1))) (fun _ hk => hk.1.2)⟩
                 have n2_ : Aside0 (((w53.setCell ⟨gb121, 0, none⟩ (.int .i64 ((rd_T27 l0 x68_2).f0))).setCell ⟨gb121, 1, none⟩ (.int .i64 ((rd_T27 l0 x68_2).f1))).heap[gb121]? = some (.cells #[.int .i64 ((rd_T27 l0 x68_2).f0), .int .i64 ((rd_T27 l0 x68_2).f1)] 27 (0, 0))) := ⟨by (with_reducible repeat (first | refine blk_drewN ?_ _ | refine blk_drew ?_ | refine blk_alloc ?_ _)); refine blk_put (cs := #[.int .i64 ((rd_T27 l0 x68_2).f0), .int .i64 0]) ?_ 1 _ rfl; (with_reducible repeat (first | refine blk_drewN ?_ _ | refine blk_drew ?_ | refine blk_alloc ?_ _)); refine blk_put (cs := #[.int .i64 0, .int .i64 0]) ?_ 0 _ rfl; (with_reducible repeat (first | refine blk_drewN ?_ _ | refine blk_drew ?_ | refine blk_alloc ?_ _)); exact BK121.out⟩
                 have n3_ : Aside0 (Below w.heap.size w ((w53.setCell ⟨gb121, 0, none⟩ (.int .i64 ((rd_T27 l0 x68_2).f0))).setCell ⟨gb121, 1, none⟩ (.int .i64 ((rd_T27 l0 x68_2).f1)))) := ⟨by repeat (first | (with_reducible first | exact HB.out | apply below_alloc | apply pw_below_drewN | apply below_drew1 | refine below_set ?_ GE121.out) | exact HB.out)⟩
                 (try clear HO_3)
                 (try clear HO_8)
                 (try clear BK121)
                 (try clear HB)
                 generalize ((w53.setCell ⟨gb121, 0, none⟩ (.int .i64 ((rd_T27 l0 x68_2).f0))).setCell ⟨gb121, 1, none⟩ (.int .i64 ((rd_T27 l0 x68_2).f1))) = w55 at n0_ n1_ n2_ n3_ ⊢
                 have HO_3 := n0_
                 have HO_8 := n1_
                 have BK121 := n2_
                 have HB := n3_
                 clear n0_ n1_ n2_ n3_
                 have n0_ := Aside0.mk (Kd.R_drew HO_3.out)
                 have n1_ := Aside0.mk (Kd.R_drew HO_8.out)
                 have n2_ := Aside0.mk (blk_drew BK121.out)
                 have n3_ := Aside0.mk (below_drew1 HB.out)
                 clear HO_3
                 clear HO_8
                 clear BK121
                 clear HB
                 have HO_3 := n0_
                 have HO_8 := n1_
                 have BK121 := n2_
                 have HB := n3_
                 clear n0_ n1_ n2_ n3_
                 have p122 : 0 ≤ (x68_2 : Int) := of_decide_eq_true (by first | (with_reducible assumption) | assumption)
                 have q122 : x68_2 < (x3_1.length : Int) := of_decide_eq_true (by first | (with_reducible assumption) | assumption)
                 obtain ⟨ad122, e122, hx122_0⟩ := Kd.at_int (Kd.R_reads' HO_3.out).2.2 x68_2 p122 q122
                 cases e122
                 replace p122 := eq_true p122
                 replace q122 := eq_true q122
                 obtain ⟨Ao57, co57, eo57⟩ := Kd.R_slice HO_8.out
                 (first | subst eo57 | (injection eo57 with f1_ f2_ f3_; have f4_ := f1_.symm; have f5_ := f3_.symm; clear f1_ f2_ f3_; subst f4_; subst f5_))
                 refine start_ (n := 22) (S := fun w' => w'.cell? (ad122.add (x68_2).toNat) = some (.int .i64 (rd x3_1 x68_2))) (ds := []) #[false, false, false, false, false, false, false, false, false, false, false, false, false, false, false, false, false, false, false, false, false, false] (by kernel_rfl) rfl rfl (hx122_0) (fun hHeld => ?_); refine with_tabW patience_Longest.tab20 patience_Longest.bits20 (fun HT_ HW_ => ?_)
                 generalize w55.drew = w56 at HO_3 HO_8 BK121 HB hx122_0 hHeld ⊢
                 refine pw_ 0 73 patience_Longest.aa_0 HT_.out ?_
                 refine pw_ 1 74 patience_Longest.aa_1 HT_.out ?_
                 refine pw_ 2 75 patience_Longest.aa_2 HT_.out ?_
                 refine pw_ 4 77 patience_Longest.aa_3 HT_.out ?_
                 refine take_ (i := 3) (N := some 76) (v := ?_) (a' := ?_) patience_Longest.aa_4 rfl rfl (take_ofW HT_.out HW_.out (by kernel_rfl)) (fun _ _ _ h => h) (Or.inl ⟨by rfl, ?_⟩) hHeld ?_ ?_
                 rotate_left
                 ·intro w' s0
                  go_simp
                  with_reducible rfl
                 rotate_left
                 ·simp only [Act.put, List.setIfInBounds_toArray, List.set_cons_zero, List.set_cons_succ, i64_w, i32_w]
                  rfl
                 refine pw_ 5 78 patience_Longest.aa_5 HT_.out ?_
                 refine pw_ 6 79 patience_Longest.aa_6 HT_.out ?_
                 refine pw_ 7 80 patience_Longest.aa_7 HT_.out ?_
                 refine pw_ 8 81 patience_Longest.aa_8 HT_.out ?_
                 refine pw_ 9 82 patience_Longest.aa_9 HT_.out ?_
                 refine pw_ 10 83 patience_Longest.aa_10 HT_.out ?_
                 refine pu_ 11 84 patience_Longest.aa_11 HT_.out ?_
                 refine pu_ 12 85 patience_Longest.aa_12 HT_.out ?_
                 refine pu_ 13 86 patience_Longest.aa_13 HT_.out ?_
                 refine pu_ 14 87 patience_Longest.aa_14 HT_.out ?_
                 refine pu_ 15 88 patience_Longest.aa_15 HT_.out ?_
                 refine pu_ 16 89 patience_Longest.aa_16 HT_.out ?_
                 refine pu_ 17 90 patience_Longest.aa_17 HT_.out ?_
                 refine pu_ 18 91 patience_Longest.aa_18 HT_.out ?_
                 refine pu_ 19 92 patience_Longest.aa_19 HT_.out ?_
                 refine pw_ 20 93 patience_Longest.aa_20 HT_.out ?_
                 refine pw_ 21 94 patience_Longest.aa_21 HT_.out ?_
                 refine done_ (done_of HT_.out (by kernel_rfl)) ?_
                 have hcz58_0 : w56.cell? ⟨gb121, 0, none⟩ = some (.int .i64 ((rd_T27 l0 x68_2).f0)) := (blk_cell BK121.out 0).trans rfl
                 have hcz58_1 : w56.cell? ⟨gb121, 1, none⟩ = some (.int .i64 ((rd_T27 l0 x68_2).f1)) := (blk_cell BK121.out 1).trans rfl
                 have hfz58_0 := blk_frozen BK121.out 0
                 have hfz58_1 := blk_frozen BK121.out 1
                 try go_wp2_with (first | ((with_reducible refine gate_builtin (b := .append) (xs := #[.tmp 95, .tmp 97]) rfl ?_); (try (refine gate_guard (by rfl) ?_; dsimp only)); at_builtin; refine Kd.R_append k27 (w0 := w) w.heap.size rfl (.tmp 95) (.tmp 97) 24 27 (.agg #[(.int .i64 0), (.int .i64 0)]) 16 rfl Try.underlying24 info27 rfl (by decide) (by omega) (.slice Ao57 x8_2.length co57) x8_2 (⟨(rd_T27 l0 x68_2).f0, (rd_T27 l0 x68_2).f1⟩ : S27) [.int .i64 ((rd_T27 l0 x68_2).f0), .int .i64 ((rd_T27 l0 x68_2).f1)] (fun k_ => k_ ≠ gb121) (fun _ => False) rfl rfl ?aP (fun _ hk => hk.elim) ?aF ?aO ?aB ?aS ?aL ?_; (case aP => exact k27_mkM _ _ _ (⟨(rd_T27 l0 x68_2).f0, (rd_T27 l0 x68_2).f1⟩ : S27)); (case aB => exact (by repeat (first | (with_reducible first | exact HB.out | apply below_alloc | apply pw_below_drewN | apply below_drew1 | refine below_set ?_ GE121.out) | exact HB.out))); (case aF => exact (fun k_ hk => Kd.freshB (g := gb121) (o := .cells #[.int .i64 ((rd_T27 l0 x68_2).f0), .int .i64 ((rd_T27 l0 x68_2).f1)] 27 (0, 0)) (by (with_reducible repeat (first | refine blk_drewN ?_ _ | refine blk_drew ?_ | refine blk_alloc ?_ _)); exact BK121.out) k_ hk)); (case aO => exact (by (with_reducible repeat (first | apply Kd.R_alloc | apply Kd.R_drewN | apply Kd.R_drew)); exact HO_8.out)); (case aS => exact (below_size (by repeat (first | (with_reducible first | exact HB.out | apply below_alloc | apply pw_below_drewN | apply below_drew1 | refine below_set ?_ GE121.out) | exact HB.out)))); (case aL => have := LMc52.out; omega); intro v124 w59 ho hb hg hat; rw [← Ny123.out] at ho; have n0_ := Aside0.mk (Kd.R_over' (by (with_reducible repeat (first | apply Kd.R_alloc | apply Kd.R_drewN | apply Kd.R_drew)); exact HO_3.out) (Kd.R_typed (by (with_reducible repeat (first | apply Kd.R_alloc | apply Kd.R_drewN | apply Kd.R_drew)); exact HO_8.out)) (by decide) hg); have n1_ := Aside0.mk (blk_grown (g := gb121) (o := .cells #[.int .i64 ((rd_T27 l0 x68_2).f0), .int .i64 ((rd_T27 l0 x68_2).f1)] 27 (0, 0)) (by (with_reducible repeat (first | refine blk_drewN ?_ _ | refine blk_drew ?_ | refine blk_alloc ?_ _)); exact BK121.out) hg (Kd.R_away HO_8.out (fun _ hk => hk))); have n2_ := Aside0.mk (hb); have n3_ := Aside0.mk (ho); clear HO_3; clear BK121; clear HB; clear HO_8; have HO_3 := n0_; have BK121 := n1_; have HB := n2_; have HO125 := n3_; clear n0_ n1_ n2_ n3_; clear ho hb hg hat))
                 go_roundg k2
                 case measure => have := HK1.out; have := HK2.out; omega
                 case rel => exact ⟨(y123), (wrap64 (x9_2 - 1)), (wrap64 (x68_2 + 1)), (by first | rfl | (simp; done) | (simp [*]; done)), (by first | rfl | (simp; done) | (simp [*]; done)), H', ⟨by have := HK1.out; have := HK2.out; omega⟩, ⟨by (with_reducible repeat (first | apply Kd.R_alloc | apply Kd.R_drewN | apply Kd.R_drew)); exact HO_3.out⟩, ⟨by (with_reducible repeat (first | apply Kd.R_alloc | apply Kd.R_drewN | apply Kd.R_drew)); exact Kd.R_mono HO125.out (fun _ hk => trivial)⟩, ⟨by repeat (first | (with_reducible first | exact HB.out | apply below_alloc | apply pw_below_drewN | apply below_drew1 | refine below_set ?_ GE121.out) | exact HB.out)⟩⟩
                ·rw [if_neg c52] at H
                 exact absurd H (by simp)
               ·rw [if_neg c51] at H
                have c51b0 : ((x8_2.length : Int) == 0) = false := beq_eq_false_iff_ne.mpr c51
                have c51b1 : ((x8_2.length : Int) != 0) = true := bne_iff_ne.mpr c51
                have c51b2 : ¬ (x8_2 = []) := fun h_ => c51 (by rw [h_]; rfl)
                obtain ⟨ji60, hji60⟩ : ∃ j_ : Int, (wrap64 ((x8_2.length : Int) - 1)) = j_ := ⟨_, rfl⟩
                replace H : (if 0 ≤ (ji60) then (if (ji60) < (x8_2.length : Int) then ((patience_Longest_1.f ((rd_T27 x8_2 (ji60)).f0) ((rd_T27 x8_2 (ji60)).f1) ((rd_T27 l0 x68_2).f0) ((rd_T27 l0 x68_2).f1)).bind fun t127 => (if t127 = true then (if x8_2.length < 8796093022208 then (patience_Longest.l2 k2 x3_1 (x8_2 ++ [(⟨(rd_T27 l0 x68_2).f0, (rd_T27 l0 x68_2).f1⟩ : S27)]) (wrap64 (x9_2 - 1)) l0 (l0.length : Int) (wrap64 (x68_2 + 1))) else (none)) else (patience_Longest.l2 k2 x3_1 x8_2 x9_2 l0 (l0.length : Int) (wrap64 (x68_2 + 1))))) else (none)) else (none)) = some r := by first | (rw [hji60] at H; exact H) | (simp only [hji60] at H ⊢; exact H)
                have hji60w : (IntKind.i64.wrap ((x8_2.length : Int) - 1)) = ji60 := (i64_w _).trans hji60
                by_cases c61 : 0 ≤ (ji60)
                ·rw [if_pos c61] at H
                 have c61b0 : decide (0 ≤ (ji60)) = true := decide_eq_true c61
                 clear c61
                 by_cases c62 : (ji60) < (x8_2.length : Int)
                 ·rw [if_pos c62] at H
                  have c62b0 : decide ((ji60) < (x8_2.length : Int)) = true := decide_eq_true c62
                  clear c62
                  replace H := Option.bind_eq_some_iff.mp H
                  obtain ⟨t127, A630, H⟩ := H
                  replace H : (if t127 = true then (if x8_2.length < 8796093022208 then (patience_Longest.l2 k2 x3_1 (x8_2 ++ [(⟨(rd_T27 l0 x68_2).f0, (rd_T27 l0 x68_2).f1⟩ : S27)]) (wrap64 (x9_2 - 1)) l0 (l0.length : Int) (wrap64 (x68_2 + 1))) else (none)) else (patience_Longest.l2 k2 x3_1 x8_2 x9_2 l0 (l0.length : Int) (wrap64 (x68_2 + 1)))) = some r := H
                  have A63 := Aside0.mk A630
                  clear A630
                  by_cases c64 : t127 = true
                  ·subst c64
                   have H1 : (if x8_2.length < 8796093022208 then (patience_Longest.l2 k2 x3_1 (x8_2 ++ [(⟨(rd_T27 l0 x68_2).f0, (rd_T27 l0 x68_2).f1⟩ : S27)]) (wrap64 (x9_2 - 1)) l0 (l0.length : Int) (wrap64 (x68_2 + 1))) else (none)) = some r := by rw [if_pos rfl] at H; exact H
                   clear H
                   have H := H1
                   clear H1
                   by_cases c65 : x8_2.length < 8796093022208
                   ·rw [if_pos c65] at H
                    have LMc65 := Aside0.mk c65
                    clear c65
                    obtain ⟨y128, hy128⟩ : ∃ y_ : List (S27), y_ = (x8_2 ++ [(⟨(rd_T27 l0 x68_2).f0, (rd_T27 l0 x68_2).f1⟩ : S27)]) := ⟨_, rfl⟩
                    replace H : (patience_Longest.l2 k2 x3_1 y128 (wrap64 (x9_2 - 1)) l0 (l0.length : Int) (wrap64 (x68_2 + 1))) = some r := by first | (rw [hy128]; with_reducible exact H) | (have H2_ := (Option.bind_some _ _).symm.trans H; rw [hy128]; with_reducible exact H2_) | (have H2_ := (Option.bind_some _ _).symm.trans H; with_reducible exact H2_) | with_reducible exact H | (rw [hy128]; exact H) | exact H
                    have Ny128 := Aside0.mk hy128
                    clear hy128
                    have H' := Aside0.mk H
                    clear H
                    have p120 : 0 ≤ (x68_2 : Int) := of_decide_eq_true (by first | (with_reducible assumption) | assumption)
                    have q120 : x68_2 < (l0.length : Int) := of_decide_eq_true (by first | (with_reducible assumption) | assumption)
                    obtain ⟨ad120, e120, hx120_0, hx120_1⟩ := at_T27 HR0.out x68_2 p120 q120
                    cases e120
                    replace hx120_0 := (HB.out.cell (World.block_lt_of_cell? w _ hx120_0)).trans hx120_0
                    replace hx120_1 := (HB.out.cell (World.block_lt_of_cell? w _ hx120_1)).trans hx120_1
                    replace p120 := eq_true p120
                    replace q120 := eq_true q120
                    try go_wp2_with (first | ((with_reducible refine gate_dst (N := 11) rfl ?_); (try (refine gate_guard (by rfl) ?_; dsimp only)); refine box_event ?hg (N := 11) ?hd (cs := #[.int .i64 0, .int .i64 0]) (t := 27) ?hr ?_; (case hd => rfl); (case hg => rfl); (case hr => first | (go_simp; done) | (go_simp; rfl)); intro gb121 hg w66 hbox hb; have n0_ := Aside0.mk (Kd.R_below (by (with_reducible repeat (first | apply Kd.R_alloc | apply Kd.R_drewN | apply Kd.R_drew)); exact HO_3.out) hb); have n1_ := Aside0.mk (Kd.R_below (Kd.R_elderB (by (with_reducible repeat (first | apply Kd.R_alloc | apply Kd.R_drewN | apply Kd.R_drew)); exact HO_8.out) gb121 (Nat.le_of_eq hg.symm)) hb); have n2_ := Aside0.mk (below_step (by repeat (first | (with_reducible first | exact HB.out | apply below_alloc | apply pw_below_drewN | apply below_drew1) | exact HB.out)) hb); have n3_ := Aside0.mk (hbox); have n4_ := Aside0.mk ((by rw [hg]; exact (below_size (by repeat (first | (with_reducible first | exact HB.out | apply below_alloc | apply pw_below_drewN | apply below_drew1) | exact HB.out))) : w.heap.size ≤ gb121)); have n5_ := Aside0.mk ((by rw [hg]; exact (below_size (by repeat (first | (with_reducible first | exact HB.out | apply below_alloc | apply pw_below_drewN | apply below_drew1) | exact HB.out))) : w.heap.size ≤ gb121)); clear HO_3; clear HO_8; clear HB; have HO_3 := n0_; have HO_8 := n1_; have HB := n2_; have BK121 := n3_; have GW121 := n4_; have GE121 := n5_; clear n0_ n1_ n2_ n3_ n4_ n5_; clear hb hbox hg; have hcz67_0 : w66.cell? ⟨gb121, 0, none⟩ = some (.int .i64 0) := (blk_cell BK121.out 0).trans rfl; have hcz67_1 : w66.cell? ⟨gb121, 1, none⟩ = some (.int .i64 0) := (blk_cell BK121.out 1).trans rfl; have hfz67_0 := blk_frozen BK121.out 0; have hfz67_1 := blk_frozen BK121.out 1))
                    have n0_ : Aside0 (Kd.R (Kd.int .i64) 3 ((w66.setCell ⟨gb121, 0, none⟩ (.int .i64 ((rd_T27 l0 x68_2).f0))).setCell ⟨gb121, 1, none⟩ (.int .i64 ((rd_T27 l0 x68_2).f1))) w.heap.size (fun _ => True) (.slice Ao45 x3_1.length co45) x3_1) := ⟨by (with_reducible repeat (first | apply Kd.R_alloc | apply Kd.R_drewN | apply Kd.R_drew)); exact Kd.R_mono (Kd.R_far (p := ⟨gb121, 1, none⟩) (Kd.R_far (p := ⟨gb121, 0, none⟩) (Kd.R_types HO_3.out BK121.out (by decide)) (fun _ hk => hk.2) (.int .i64 ((rd_T27 l0 x68_2).f0))) (fun _ hk => hk.2) (.int .i64 ((rd_T27 l0 x68_2).f1))) (fun _ hk => trivial)⟩
                    have n1_ : Aside0 (Kd.R k27 27 ((w66.setCell ⟨gb121, 0, none⟩ (.int .i64 ((rd_T27 l0 x68_2).f0))).setCell ⟨gb121, 1, none⟩ (.int .i64 ((rd_T27 l0 x68_2).f1))) w.heap.size (fun k_ => k_ ≠ gb121) u8 x8_2) := ⟨by (with_reducible repeat (first | apply Kd.R_alloc | apply Kd.R_drewN | apply Kd.R_drew)); exact Kd.R_mono (Kd.R_far (p := ⟨gb121, 1, none⟩) (Kd.R_far (p := ⟨gb121, 0, none⟩) (Kd.R_mono HO_8.out (fun k_ hk => (⟨hk, hk.2⟩ : _ ∧ k_ ≠ gb121))) (fun _ hk => hk.2) (.int .i64 ((rd_T27 l0 x68_2).f0))) (fun _ hk => hk.2) (.int .i64 ((rd_T27 l0 x68_2).f1))) (fun _ hk => hk.1.2)⟩
                    have n2_ : Aside0 (((w66.setCell ⟨gb121, 0, none⟩ (.int .i64 ((rd_T27 l0 x68_2).f0))).setCell ⟨gb121, 1, none⟩ (.int .i64 ((rd_T27 l0 x68_2).f1))).heap[gb121]? = some (.cells #[.int .i64 ((rd_T27 l0 x68_2).f0), .int .i64 ((rd_T27 l0 x68_2).f1)] 27 (0, 0))) := ⟨by (with_reducible repeat (first | refine blk_drewN ?_ _ | refine blk_drew ?_ | refine blk_alloc ?_ _)); refine blk_put (cs := #[.int .i64 ((rd_T27 l0 x68_2).f0), .int .i64 0]) ?_ 1 _ rfl; (with_reducible repeat (first | refine blk_drewN ?_ _ | refine blk_drew ?_ | refine blk_alloc ?_ _)); refine blk_put (cs := #[.int .i64 0, .int .i64 0]) ?_ 0 _ rfl; (with_reducible repeat (first | refine blk_drewN ?_ _ | refine blk_drew ?_ | refine blk_alloc ?_ _)); exact BK121.out⟩
                    have n3_ : Aside0 (Below w.heap.size w ((w66.setCell ⟨gb121, 0, none⟩ (.int .i64 ((rd_T27 l0 x68_2).f0))).setCell ⟨gb121, 1, none⟩ (.int .i64 ((rd_T27 l0 x68_2).f1)))) := ⟨by repeat (first | (with_reducible first | exact HB.out | apply below_alloc | apply pw_below_drewN | apply below_drew1 | refine below_set ?_ GE121.out) | exact HB.out)⟩
                    (try clear HO_3)
                    (try clear HO_8)
                    (try clear BK121)
                    (try clear HB)
                    generalize ((w66.setCell ⟨gb121, 0, none⟩ (.int .i64 ((rd_T27 l0 x68_2).f0))).setCell ⟨gb121, 1, none⟩ (.int .i64 ((rd_T27 l0 x68_2).f1))) = w68 at n0_ n1_ n2_ n3_ ⊢
                    have HO_3 := n0_
                    have HO_8 := n1_
                    have BK121 := n2_
                    have HB := n3_
                    clear n0_ n1_ n2_ n3_
                    have n0_ := Aside0.mk (Kd.R_drew HO_3.out)
                    have n1_ := Aside0.mk (Kd.R_drew HO_8.out)
                    have n2_ := Aside0.mk (blk_drew BK121.out)
                    have n3_ := Aside0.mk (below_drew1 HB.out)
                    clear HO_3
                    clear HO_8
                    clear BK121
                    clear HB
                    have HO_3 := n0_
                    have HO_8 := n1_
                    have BK121 := n2_
                    have HB := n3_
                    clear n0_ n1_ n2_ n3_
                    have p122 : 0 ≤ (x68_2 : Int) := of_decide_eq_true (by first | (with_reducible assumption) | assumption)
                    have q122 : x68_2 < (x3_1.length : Int) := of_decide_eq_true (by first | (with_reducible assumption) | assumption)
                    obtain ⟨ad122, e122, hx122_0⟩ := Kd.at_int (Kd.R_reads' HO_3.out).2.2 x68_2 p122 q122
                    cases e122
                    replace p122 := eq_true p122
                    replace q122 := eq_true q122
                    obtain ⟨Ao70, co70, eo70⟩ := Kd.R_slice HO_8.out
                    (first | subst eo70 | (injection eo70 with f1_ f2_ f3_; have f4_ := f1_.symm; have f5_ := f3_.symm; clear f1_ f2_ f3_; subst f4_; subst f5_))
                    have p126 : 0 ≤ ((ji60) : Int) := of_decide_eq_true (by first | (with_reducible assumption) | assumption)
                    have q126 : (ji60) < (x8_2.length : Int) := of_decide_eq_true (by first | (with_reducible assumption) | assumption)
                    obtain ⟨ad126, e126, hx126_0, hx126_1⟩ := at_T27 (Kd.R_reads' HO_8.out).2.2 (ji60) p126 q126
                    cases e126
                    replace p126 := eq_true p126
                    replace q126 := eq_true q126
                    refine start_ (n := 22) (S := fun w' => w'.cell? ⟨gb121, 0, none⟩ = some (.int .i64 ((rd_T27 l0 x68_2).f0)) ∧ w'.cell? ⟨gb121, 1, none⟩ = some (.int .i64 ((rd_T27 l0 x68_2).f1)) ∧ w'.cell? (ad122.add (x68_2).toNat) = some (.int .i64 (rd x3_1 x68_2)) ∧ w'.cell? (ad126.add (((ji60)).toNat * 2)) = some (.int .i64 ((rd_T27 x8_2 (ji60)).f0)) ∧ w'.cell? ⟨(ad126.add (((ji60)).toNat * 2)).block, (ad126.add (((ji60)).toNat * 2)).off + 1, none⟩ = some (.int .i64 ((rd_T27 x8_2 (ji60)).f1))) (ds := []) #[false, false, false, false, false, false, false, false, false, false, false, false, false, false, false, false, false, false, false, false, false, false] (by kernel_rfl) rfl rfl ⟨(blk_cell BK121.out 0).trans rfl, (blk_cell BK121.out 1).trans rfl, hx122_0, hx126_0, hx126_1⟩ (fun hHeld => ?_); refine with_tabW patience_Longest.tab20 patience_Longest.bits20 (fun HT_ HW_ => ?_)
                    generalize w68.drew = w69 at HO_3 HO_8 BK121 HB hx122_0 hx126_0 hx126_1 hHeld ⊢
                    refine pw_ 0 73 patience_Longest.aa_0 HT_.out ?_
                    refine pw_ 1 74 patience_Longest.aa_1 HT_.out ?_
                    refine pw_ 2 75 patience_Longest.aa_2 HT_.out ?_
                    refine pw_ 4 77 patience_Longest.aa_3 HT_.out ?_
                    refine take_ (i := 3) (N := some 76) (v := ?_) (a' := ?_) patience_Longest.aa_4 rfl rfl (take_ofW HT_.out HW_.out (by kernel_rfl)) (fun _ _ _ h => h) (Or.inl ⟨by rfl, ?_⟩) hHeld ?_ ?_
                    rotate_left
                    ·rintro w' ⟨s0, s1, s2, s3, s4⟩
                     go_simp
                     with_reducible rfl
                    rotate_left
                    ·simp only [Act.put, List.setIfInBounds_toArray, List.set_cons_zero, List.set_cons_succ, i64_w, i32_w]
                     rfl
                    refine pw_ 5 78 patience_Longest.aa_5 HT_.out ?_
                    refine pw_ 6 79 patience_Longest.aa_6 HT_.out ?_
                    refine pw_ 7 80 patience_Longest.aa_7 HT_.out ?_
                    refine pw_ 8 81 patience_Longest.aa_8 HT_.out ?_
                    refine pw_ 9 82 patience_Longest.aa_9 HT_.out ?_
                    refine pw_ 10 83 patience_Longest.aa_10 HT_.out ?_
                    refine pw_ 11 84 patience_Longest.aa_11 HT_.out ?_
                    refine pw_ 12 85 patience_Longest.aa_12 HT_.out ?_
                    refine pw_ 13 86 patience_Longest.aa_13 HT_.out ?_
                    refine pw_ 14 87 patience_Longest.aa_14 HT_.out ?_
                    refine pw_ 15 88 patience_Longest.aa_15 HT_.out ?_
                    refine pw_ 16 89 patience_Longest.aa_16 HT_.out ?_
                    refine take_ (i := 17) (N := some 90) (v := ?_) (a' := ?_) patience_Longest.aa_17 rfl rfl (take_ofW HT_.out HW_.out (by kernel_rfl)) (fun _ _ _ h => h) (Or.inl ⟨by rfl, ?_⟩) hHeld ?_ ?_
                    rotate_left
                    ·rintro w' ⟨s0, s1, s2, s3, s4⟩
                     go_simp
                     with_reducible rfl
                    rotate_left
                    ·simp only [Act.put, List.setIfInBounds_toArray, List.set_cons_zero, List.set_cons_succ, i64_w, i32_w]
                     rfl
                    refine take_ (i := 18) (N := some 91) (v := ?_) (a' := ?_) patience_Longest.aa_18 rfl rfl (take_ofW HT_.out HW_.out (by kernel_rfl)) (fun _ _ _ h => h) (Or.inl ⟨by rfl, ?_⟩) hHeld ?_ ?_
                    rotate_left
                    ·rintro w' ⟨s0, s1, s2, s3, s4⟩
                     go_simp
                     with_reducible rfl
                    rotate_left
                    ·simp only [Act.put, List.setIfInBounds_toArray, List.set_cons_zero, List.set_cons_succ, i64_w, i32_w]
                     rfl
                    refine one_ (i := 19) (N := some 92) patience_Longest.aa_19 rfl rfl (one_of HT_.out (by kernel_rfl)) (by decide) (fun K hK => ?_)
                    refine goesv_ Try.func20 (by kernel_rfl) rfl #[.agg #[.int .i64 ((rd_T27 x8_2 (ji60)).f0), .int .i64 ((rd_T27 x8_2 (ji60)).f1)], .agg #[.int .i64 ((rd_T27 l0 x68_2).f0), .int .i64 ((rd_T27 l0 x68_2).f1)]] (by rfl) rfl ⟨rfl, rfl⟩ (by (try simp only [List.map_toArray, List.map_cons, List.map_nil]); first | done | (simp only [hji60]; rfl) | rfl | (simp only [List.length_drop, List.length_take]; rfl)) ?_
                    with_reducible refine (patience_Longest_1.calls ((rd_T27 x8_2 (ji60)).f0) ((rd_T27 x8_2 (ji60)).f1) ((rd_T27 l0 x68_2).f0) ((rd_T27 l0 x68_2).f1) true _ A63.out).mono ?_
                    rintro e w71 ⟨rfl, hb⟩
                    have HS2_ := (hb.cell (World.block_lt_of_cell? _ _ (hHeld.2.2.1))).trans (hHeld.2.2.1)
                    have HS3_ := (hb.cell (World.block_lt_of_cell? _ _ (hHeld.2.2.2.1))).trans (hHeld.2.2.2.1)
                    have HS4_ := (hb.cell (World.block_lt_of_cell? _ _ (hHeld.2.2.2.2))).trans (hHeld.2.2.2.2)
                    refine ⟨_, rfl, ?_⟩
                    have n0_ := Aside0.mk (Kd.R_below (by (with_reducible repeat (first | apply Kd.R_alloc | apply Kd.R_drewN | apply Kd.R_drew)); exact HO_3.out) hb)
                    have n1_ := Aside0.mk (Kd.R_below (by (with_reducible repeat (first | apply Kd.R_alloc | apply Kd.R_drewN | apply Kd.R_drew)); exact HO_8.out) hb)
                    have n2_ := Aside0.mk (blk_below (g := gb121) (o := .cells #[.int .i64 ((rd_T27 l0 x68_2).f0), .int .i64 ((rd_T27 l0 x68_2).f1)] 27 (0, 0)) (by (with_reducible repeat (first | refine blk_drewN ?_ _ | refine blk_drew ?_ | refine blk_alloc ?_ _)); exact BK121.out) hb)
                    have n3_ := Aside0.mk (below_step (by repeat (first | (with_reducible first | exact HB.out | apply below_alloc | apply pw_below_drewN | apply below_drew1 | refine below_set ?_ GE121.out) | exact HB.out)) hb)
                    clear HO_3
                    clear HO_8
                    clear BK121
                    clear HB
                    have HO_3 := n0_
                    have HO_8 := n1_
                    have BK121 := n2_
                    have HB := n3_
                    clear n0_ n1_ n2_ n3_
                    (try clear hb)
                    (try clear hb2)
                    (try clear hk)
                    (try clear hi)
                    refine hK.out _ _ ⟨(blk_cell BK121.out 0).trans rfl, (blk_cell BK121.out 1).trans rfl, HS2_, HS3_, HS4_⟩ (fun hHeld => ?_)
                    clear hK K
                    refine norm_ (a' := ?_) ?_ ?_
                    rotate_left
                    ·show Act.put _ (some 92) _ = _
                     simp only [Act.put, List.setIfInBounds_toArray, List.set_cons_zero, List.set_cons_succ, i64_w, i32_w]
                     rfl
                    refine pw_ 20 93 patience_Longest.aa_20 HT_.out ?_
                    refine pw_ 21 94 patience_Longest.aa_21 HT_.out ?_
                    refine done_ (done_of HT_.out (by kernel_rfl)) ?_
                    have hcz72_0 : w71.cell? ⟨gb121, 0, none⟩ = some (.int .i64 ((rd_T27 l0 x68_2).f0)) := (blk_cell BK121.out 0).trans rfl
                    have hcz72_1 : w71.cell? ⟨gb121, 1, none⟩ = some (.int .i64 ((rd_T27 l0 x68_2).f1)) := (blk_cell BK121.out 1).trans rfl
                    have hfz72_0 := blk_frozen BK121.out 0
                    have hfz72_1 := blk_frozen BK121.out 1
                    try go_wp2_with (first | ((with_reducible refine gate_builtin (b := .append) (xs := #[.tmp 95, .tmp 97]) rfl ?_); (try (refine gate_guard (by rfl) ?_; dsimp only)); at_builtin; refine Kd.R_append k27 (w0 := w) w.heap.size rfl (.tmp 95) (.tmp 97) 24 27 (.agg #[(.int .i64 0), (.int .i64 0)]) 16 rfl Try.underlying24 info27 rfl (by decide) (by omega) (.slice (some ad126) x8_2.length co70) x8_2 (⟨(rd_T27 l0 x68_2).f0, (rd_T27 l0 x68_2).f1⟩ : S27) [.int .i64 ((rd_T27 l0 x68_2).f0), .int .i64 ((rd_T27 l0 x68_2).f1)] (fun k_ => k_ ≠ gb121) (fun _ => False) rfl rfl ?aP (fun _ hk => hk.elim) ?aF ?aO ?aB ?aS ?aL ?_; (case aP => exact k27_mkM _ _ _ (⟨(rd_T27 l0 x68_2).f0, (rd_T27 l0 x68_2).f1⟩ : S27)); (case aB => exact (by repeat (first | (with_reducible first | exact HB.out | apply below_alloc | apply pw_below_drewN | apply below_drew1 | refine below_set ?_ GE121.out) | exact HB.out))); (case aF => exact (fun k_ hk => Kd.freshB (g := gb121) (o := .cells #[.int .i64 ((rd_T27 l0 x68_2).f0), .int .i64 ((rd_T27 l0 x68_2).f1)] 27 (0, 0)) (by (with_reducible repeat (first | refine blk_drewN ?_ _ | refine blk_drew ?_ | refine blk_alloc ?_ _)); exact BK121.out) k_ hk)); (case aO => exact (by (with_reducible repeat (first | apply Kd.R_alloc | apply Kd.R_drewN | apply Kd.R_drew)); exact HO_8.out)); (case aS => exact (below_size (by repeat (first | (with_reducible first | exact HB.out | apply below_alloc | apply pw_below_drewN | apply below_drew1 | refine below_set ?_ GE121.out) | exact HB.out)))); (case aL => have := LMc65.out; omega); intro v129 w73 ho hb hg hat; rw [← Ny128.out] at ho; have n0_ := Aside0.mk (Kd.R_over' (by (with_reducible repeat (first | apply Kd.R_alloc | apply Kd.R_drewN | apply Kd.R_drew)); exact HO_3.out) (Kd.R_typed (by (with_reducible repeat (first | apply Kd.R_alloc | apply Kd.R_drewN | apply Kd.R_drew)); exact HO_8.out)) (by decide) hg); have n1_ := Aside0.mk (blk_grown (g := gb121) (o := .cells #[.int .i64 ((rd_T27 l0 x68_2).f0), .int .i64 ((rd_T27 l0 x68_2).f1)] 27 (0, 0)) (by (with_reducible repeat (first | refine blk_drewN ?_ _ | refine blk_drew ?_ | refine blk_alloc ?_ _)); exact BK121.out) hg (Kd.R_away HO_8.out (fun _ hk => hk))); have n2_ := Aside0.mk (hb); have n3_ := Aside0.mk (ho); clear HO_3; clear BK121; clear HB; clear HO_8; have HO_3 := n0_; have BK121 := n1_; have HB := n2_; have HO130 := n3_; clear n0_ n1_ n2_ n3_; clear ho hb hg hat))
                    go_roundg k2
                    case measure => have := HK1.out; have := HK2.out; omega
                    case rel => exact ⟨(y128), (wrap64 (x9_2 - 1)), (wrap64 (x68_2 + 1)), (by first | rfl | (simp; done) | (simp [*]; done)), (by first | rfl | (simp; done) | (simp [*]; done)), H', ⟨by have := HK1.out; have := HK2.out; omega⟩, ⟨by (with_reducible repeat (first | apply Kd.R_alloc | apply Kd.R_drewN | apply Kd.R_drew)); exact HO_3.out⟩, ⟨by (with_reducible repeat (first | apply Kd.R_alloc | apply Kd.R_drewN | apply Kd.R_drew)); exact Kd.R_mono HO130.out (fun _ hk => trivial)⟩, ⟨by repeat (first | (with_reducible first | exact HB.out | apply below_alloc | apply pw_below_drewN | apply below_drew1 | refine below_set ?_ GE121.out) | exact HB.out)⟩⟩
                   ·rw [if_neg c65] at H
                    exact absurd H (by simp)
                  ·replace c64 := Bool.eq_false_iff.mpr c64
                   subst c64
                   have H1 : (patience_Longest.l2 k2 x3_1 x8_2 x9_2 l0 (l0.length : Int) (wrap64 (x68_2 + 1))) = some r := by rw [if_neg (show ¬ (false = true) by decide)] at H; exact H
                   clear H
                   have H := H1
                   clear H1
                   have H' := Aside0.mk H
                   clear H
                   have p120 : 0 ≤ (x68_2 : Int) := of_decide_eq_true (by first | (with_reducible assumption) | assumption)
                   have q120 : x68_2 < (l0.length : Int) := of_decide_eq_true (by first | (with_reducible assumption) | assumption)
                   obtain ⟨ad120, e120, hx120_0, hx120_1⟩ := at_T27 HR0.out x68_2 p120 q120
                   cases e120
                   replace hx120_0 := (HB.out.cell (World.block_lt_of_cell? w _ hx120_0)).trans hx120_0
                   replace hx120_1 := (HB.out.cell (World.block_lt_of_cell? w _ hx120_1)).trans hx120_1
                   replace p120 := eq_true p120
                   replace q120 := eq_true q120
                   try go_wp2_with (first | ((with_reducible refine gate_dst (N := 11) rfl ?_); (try (refine gate_guard (by rfl) ?_; dsimp only)); refine box_event ?hg (N := 11) ?hd (cs := #[.int .i64 0, .int .i64 0]) (t := 27) ?hr ?_; (case hd => rfl); (case hg => rfl); (case hr => first | (go_simp; done) | (go_simp; rfl)); intro gb121 hg w74 hbox hb; have n0_ := Aside0.mk (Kd.R_below (by (with_reducible repeat (first | apply Kd.R_alloc | apply Kd.R_drewN | apply Kd.R_drew)); exact HO_3.out) hb); have n1_ := Aside0.mk (Kd.R_below (Kd.R_elderB (by (with_reducible repeat (first | apply Kd.R_alloc | apply Kd.R_drewN | apply Kd.R_drew)); exact HO_8.out) gb121 (Nat.le_of_eq hg.symm)) hb); have n2_ := Aside0.mk (below_step (by repeat (first | (with_reducible first | exact HB.out | apply below_alloc | apply pw_below_drewN | apply below_drew1) | exact HB.out)) hb); have n3_ := Aside0.mk (hbox); have n4_ := Aside0.mk ((by rw [hg]; exact (below_size (by repeat (first | (with_reducible first | exact HB.out | apply below_alloc | apply pw_below_drewN | apply below_drew1) | exact HB.out))) : w.heap.size ≤ gb121)); have n5_ := Aside0.mk ((by rw [hg]; exact (below_size (by repeat (first | (with_reducible first | exact HB.out | apply below_alloc | apply pw_below_drewN | apply below_drew1) | exact HB.out))) : w.heap.size ≤ gb121)); clear HO_3; clear HO_8; clear HB; have HO_3 := n0_; have HO_8 := n1_; have HB := n2_; have BK121 := n3_; have GW121 := n4_; have GE121 := n5_; clear n0_ n1_ n2_ n3_ n4_ n5_; clear hb hbox hg; have hcz75_0 : w74.cell? ⟨gb121, 0, none⟩ = some (.int .i64 0) := (blk_cell BK121.out 0).trans rfl; have hcz75_1 : w74.cell? ⟨gb121, 1, none⟩ = some (.int .i64 0) := (blk_cell BK121.out 1).trans rfl; have hfz75_0 := blk_frozen BK121.out 0; have hfz75_1 := blk_frozen BK121.out 1))
                   have n0_ : Aside0 (Kd.R (Kd.int .i64) 3 ((w74.setCell ⟨gb121, 0, none⟩ (.int .i64 ((rd_T27 l0 x68_2).f0))).setCell ⟨gb121, 1, none⟩ (.int .i64 ((rd_T27 l0 x68_2).f1))) w.heap.size (fun _ => True) (.slice Ao45 x3_1.length co45) x3_1) := ⟨by (with_reducible repeat (first | apply Kd.R_alloc | apply Kd.R_drewN | apply Kd.R_drew)); exact Kd.R_mono (Kd.R_far (p := ⟨gb121, 1, none⟩) (Kd.R_far (p := ⟨gb121, 0, none⟩) (Kd.R_types HO_3.out BK121.out (by decide)) (fun _ hk => hk.2) (.int .i64 ((rd_T27 l0 x68_2).f0))) (fun _ hk => hk.2) (.int .i64 ((rd_T27 l0 x68_2).f1))) (fun _ hk => trivial)⟩
                   have n1_ : Aside0 (Kd.R k27 27 ((w74.setCell ⟨gb121, 0, none⟩ (.int .i64 ((rd_T27 l0 x68_2).f0))).setCell ⟨gb121, 1, none⟩ (.int .i64 ((rd_T27 l0 x68_2).f1))) w.heap.size (fun k_ => k_ ≠ gb121) u8 x8_2) := ⟨by (with_reducible repeat (first | apply Kd.R_alloc | apply Kd.R_drewN | apply Kd.R_drew)); exact Kd.R_mono (Kd.R_far (p := ⟨gb121, 1, none⟩) (Kd.R_far (p := ⟨gb121, 0, none⟩) (Kd.R_mono HO_8.out (fun k_ hk => (⟨hk, hk.2⟩ : _ ∧ k_ ≠ gb121))) (fun _ hk => hk.2) (.int .i64 ((rd_T27 l0 x68_2).f0))) (fun _ hk => hk.2) (.int .i64 ((rd_T27 l0 x68_2).f1))) (fun _ hk => hk.1.2)⟩
                   have n2_ : Aside0 (((w74.setCell ⟨gb121, 0, none⟩ (.int .i64 ((rd_T27 l0 x68_2).f0))).setCell ⟨gb121, 1, none⟩ (.int .i64 ((rd_T27 l0 x68_2).f1))).heap[gb121]? = some (.cells #[.int .i64 ((rd_T27 l0 x68_2).f0), .int .i64 ((rd_T27 l0 x68_2).f1)] 27 (0, 0))) := ⟨by (with_reducible repeat (first | refine blk_drewN ?_ _ | refine blk_drew ?_ | refine blk_alloc ?_ _)); refine blk_put (cs := #[.int .i64 ((rd_T27 l0 x68_2).f0), .int .i64 0]) ?_ 1 _ rfl; (with_reducible repeat (first | refine blk_drewN ?_ _ | refine blk_drew ?_ | refine blk_alloc ?_ _)); refine blk_put (cs := #[.int .i64 0, .int .i64 0]) ?_ 0 _ rfl; (with_reducible repeat (first | refine blk_drewN ?_ _ | refine blk_drew ?_ | refine blk_alloc ?_ _)); exact BK121.out⟩
                   have n3_ : Aside0 (Below w.heap.size w ((w74.setCell ⟨gb121, 0, none⟩ (.int .i64 ((rd_T27 l0 x68_2).f0))).setCell ⟨gb121, 1, none⟩ (.int .i64 ((rd_T27 l0 x68_2).f1)))) := ⟨by repeat (first | (with_reducible first | exact HB.out | apply below_alloc | apply pw_below_drewN | apply below_drew1 | refine below_set ?_ GE121.out) | exact HB.out)⟩
                   (try clear HO_3)
                   (try clear HO_8)
                   (try clear BK121)
                   (try clear HB)
                   generalize ((w74.setCell ⟨gb121, 0, none⟩ (.int .i64 ((rd_T27 l0 x68_2).f0))).setCell ⟨gb121, 1, none⟩ (.int .i64 ((rd_T27 l0 x68_2).f1))) = w76 at n0_ n1_ n2_ n3_ ⊢
                   have HO_3 := n0_
                   have HO_8 := n1_
                   have BK121 := n2_
                   have HB := n3_
                   clear n0_ n1_ n2_ n3_
                   have n0_ := Aside0.mk (Kd.R_drew HO_3.out)
                   have n1_ := Aside0.mk (Kd.R_drew HO_8.out)
                   have n2_ := Aside0.mk (blk_drew BK121.out)
                   have n3_ := Aside0.mk (below_drew1 HB.out)
                   clear HO_3
                   clear HO_8
                   clear BK121
                   clear HB
                   have HO_3 := n0_
                   have HO_8 := n1_
                   have BK121 := n2_
                   have HB := n3_
                   clear n0_ n1_ n2_ n3_
                   have p122 : 0 ≤ (x68_2 : Int) := of_decide_eq_true (by first | (with_reducible assumption) | assumption)
                   have q122 : x68_2 < (x3_1.length : Int) := of_decide_eq_true (by first | (with_reducible assumption) | assumption)
                   obtain ⟨ad122, e122, hx122_0⟩ := Kd.at_int (Kd.R_reads' HO_3.out).2.2 x68_2 p122 q122
                   cases e122
                   replace p122 := eq_true p122
                   replace q122 := eq_true q122
                   obtain ⟨Ao78, co78, eo78⟩ := Kd.R_slice HO_8.out
                   (first | subst eo78 | (injection eo78 with f1_ f2_ f3_; have f4_ := f1_.symm; have f5_ := f3_.symm; clear f1_ f2_ f3_; subst f4_; subst f5_))
                   have p126 : 0 ≤ ((ji60) : Int) := of_decide_eq_true (by first | (with_reducible assumption) | assumption)
                   have q126 : (ji60) < (x8_2.length : Int) := of_decide_eq_true (by first | (with_reducible assumption) | assumption)
                   obtain ⟨ad126, e126, hx126_0, hx126_1⟩ := at_T27 (Kd.R_reads' HO_8.out).2.2 (ji60) p126 q126
                   cases e126
                   replace p126 := eq_true p126
                   replace q126 := eq_true q126
                   refine start_ (n := 22) (S := fun w' => w'.cell? ⟨gb121, 0, none⟩ = some (.int .i64 ((rd_T27 l0 x68_2).f0)) ∧ w'.cell? ⟨gb121, 1, none⟩ = some (.int .i64 ((rd_T27 l0 x68_2).f1)) ∧ w'.cell? (ad122.add (x68_2).toNat) = some (.int .i64 (rd x3_1 x68_2)) ∧ w'.cell? (ad126.add (((ji60)).toNat * 2)) = some (.int .i64 ((rd_T27 x8_2 (ji60)).f0)) ∧ w'.cell? ⟨(ad126.add (((ji60)).toNat * 2)).block, (ad126.add (((ji60)).toNat * 2)).off + 1, none⟩ = some (.int .i64 ((rd_T27 x8_2 (ji60)).f1))) (ds := []) #[false, false, false, false, false, false, false, false, false, false, false, false, false, false, false, false, false, false, false, false, false, false] (by kernel_rfl) rfl rfl ⟨(blk_cell BK121.out 0).trans rfl, (blk_cell BK121.out 1).trans rfl, hx122_0, hx126_0, hx126_1⟩ (fun hHeld => ?_); refine with_tabW patience_Longest.tab20 patience_Longest.bits20 (fun HT_ HW_ => ?_)
                   generalize w76.drew = w77 at HO_3 HO_8 BK121 HB hx122_0 hx126_0 hx126_1 hHeld ⊢
                   refine pw_ 0 73 patience_Longest.aa_0 HT_.out ?_
                   refine pw_ 1 74 patience_Longest.aa_1 HT_.out ?_
                   refine pw_ 2 75 patience_Longest.aa_2 HT_.out ?_
                   refine pw_ 4 77 patience_Longest.aa_3 HT_.out ?_
                   refine take_ (i := 3) (N := some 76) (v := ?_) (a' := ?_) patience_Longest.aa_4 rfl rfl (take_ofW HT_.out HW_.out (by kernel_rfl)) (fun _ _ _ h => h) (Or.inl ⟨by rfl, ?_⟩) hHeld ?_ ?_
                   rotate_left
                   ·rintro w' ⟨s0, s1, s2, s3, s4⟩
                    go_simp
                    with_reducible rfl
                   rotate_left
                   ·simp only [Act.put, List.setIfInBounds_toArray, List.set_cons_zero, List.set_cons_succ, i64_w, i32_w]
                    rfl
                   refine pw_ 5 78 patience_Longest.aa_5 HT_.out ?_
                   refine pw_ 6 79 patience_Longest.aa_6 HT_.out ?_
                   refine pw_ 7 80 patience_Longest.aa_7 HT_.out ?_
                   refine pw_ 8 81 patience_Longest.aa_8 HT_.out ?_
                   refine pw_ 9 82 patience_Longest.aa_9 HT_.out ?_
                   refine pw_ 10 83 patience_Longest.aa_10 HT_.out ?_
                   refine pw_ 11 84 patience_Longest.aa_11 HT_.out ?_
                   refine pw_ 12 85 patience_Longest.aa_12 HT_.out ?_
                   refine pw_ 13 86 patience_Longest.aa_13 HT_.out ?_
                   refine pw_ 14 87 patience_Longest.aa_14 HT_.out ?_
                   refine pw_ 15 88 patience_Longest.aa_15 HT_.out ?_
                   refine pw_ 16 89 patience_Longest.aa_16 HT_.out ?_
                   refine take_ (i := 17) (N := some 90) (v := ?_) (a' := ?_) patience_Longest.aa_17 rfl rfl (take_ofW HT_.out HW_.out (by kernel_rfl)) (fun _ _ _ h => h) (Or.inl ⟨by rfl, ?_⟩) hHeld ?_ ?_
                   rotate_left
                   ·rintro w' ⟨s0, s1, s2, s3, s4⟩
                    go_simp
                    with_reducible rfl
                   rotate_left
                   ·simp only [Act.put, List.setIfInBounds_toArray, List.set_cons_zero, List.set_cons_succ, i64_w, i32_w]
                    rfl
                   refine take_ (i := 18) (N := some 91) (v := ?_) (a' := ?_) patience_Longest.aa_18 rfl rfl (take_ofW HT_.out HW_.out (by kernel_rfl)) (fun _ _ _ h => h) (Or.inl ⟨by rfl, ?_⟩) hHeld ?_ ?_
                   rotate_left
                   ·rintro w' ⟨s0, s1, s2, s3, s4⟩
                    go_simp
                    with_reducible rfl
                   rotate_left
                   ·simp only [Act.put, List.setIfInBounds_toArray, List.set_cons_zero, List.set_cons_succ, i64_w, i32_w]
                    rfl
                   refine one_ (i := 19) (N := some 92) patience_Longest.aa_19 rfl rfl (one_of HT_.out (by kernel_rfl)) (by decide) (fun K hK => ?_)
                   refine goesv_ Try.func20 (by kernel_rfl) rfl #[.agg #[.int .i64 ((rd_T27 x8_2 (ji60)).f0), .int .i64 ((rd_T27 x8_2 (ji60)).f1)], .agg #[.int .i64 ((rd_T27 l0 x68_2).f0), .int .i64 ((rd_T27 l0 x68_2).f1)]] (by rfl) rfl ⟨rfl, rfl⟩ (by (try simp only [List.map_toArray, List.map_cons, List.map_nil]); first | done | (simp only [hji60]; rfl) | rfl | (simp only [List.length_drop, List.length_take]; rfl)) ?_
                   with_reducible refine (patience_Longest_1.calls ((rd_T27 x8_2 (ji60)).f0) ((rd_T27 x8_2 (ji60)).f1) ((rd_T27 l0 x68_2).f0) ((rd_T27 l0 x68_2).f1) false _ A63.out).mono ?_
                   rintro e w79 ⟨rfl, hb⟩
                   have HS2_ := (hb.cell (World.block_lt_of_cell? _ _ (hHeld.2.2.1))).trans (hHeld.2.2.1)
                   have HS3_ := (hb.cell (World.block_lt_of_cell? _ _ (hHeld.2.2.2.1))).trans (hHeld.2.2.2.1)
                   have HS4_ := (hb.cell (World.block_lt_of_cell? _ _ (hHeld.2.2.2.2))).trans (hHeld.2.2.2.2)
                   refine ⟨_, rfl, ?_⟩
                   have n0_ := Aside0.mk (Kd.R_below (by (with_reducible repeat (first | apply Kd.R_alloc | apply Kd.R_drewN | apply Kd.R_drew)); exact HO_3.out) hb)
                   have n1_ := Aside0.mk (Kd.R_below (by (with_reducible repeat (first | apply Kd.R_alloc | apply Kd.R_drewN | apply Kd.R_drew)); exact HO_8.out) hb)
                   have n2_ := Aside0.mk (blk_below (g := gb121) (o := .cells #[.int .i64 ((rd_T27 l0 x68_2).f0), .int .i64 ((rd_T27 l0 x68_2).f1)] 27 (0, 0)) (by (with_reducible repeat (first | refine blk_drewN ?_ _ | refine blk_drew ?_ | refine blk_alloc ?_ _)); exact BK121.out) hb)
                   have n3_ := Aside0.mk (below_step (by repeat (first | (with_reducible first | exact HB.out | apply below_alloc | apply pw_below_drewN | apply below_drew1 | refine below_set ?_ GE121.out) | exact HB.out)) hb)
                   clear HO_3
                   clear HO_8
                   clear BK121
                   clear HB
                   have HO_3 := n0_
                   have HO_8 := n1_
                   have BK121 := n2_
                   have HB := n3_
                   clear n0_ n1_ n2_ n3_
                   (try clear hb)
                   (try clear hb2)
                   (try clear hk)
                   (try clear hi)
                   refine hK.out _ _ ⟨(blk_cell BK121.out 0).trans rfl, (blk_cell BK121.out 1).trans rfl, HS2_, HS3_, HS4_⟩ (fun hHeld => ?_)
                   clear hK K
                   refine norm_ (a' := ?_) ?_ ?_
                   rotate_left
                   ·show Act.put _ (some 92) _ = _
                    simp only [Act.put, List.setIfInBounds_toArray, List.set_cons_zero, List.set_cons_succ, i64_w, i32_w]
                    rfl
                   refine pw_ 20 93 patience_Longest.aa_20 HT_.out ?_
                   refine pw_ 21 94 patience_Longest.aa_21 HT_.out ?_
                   refine done_ (done_of HT_.out (by kernel_rfl)) ?_
                   try go_wp2
                   go_roundg k2
                   case measure => have := HK1.out; have := HK2.out; omega
                   case rel => exact ⟨(x8_2), (x9_2), (wrap64 (x68_2 + 1)), (by first | rfl | (simp; done) | (simp [*]; done)), (by first | rfl | (simp; done) | (simp [*]; done)), H', ⟨by have := HK1.out; have := HK2.out; omega⟩, ⟨by (with_reducible repeat (first | apply Kd.R_alloc | apply Kd.R_drewN | apply Kd.R_drew)); exact HO_3.out⟩, ⟨by (with_reducible repeat (first | apply Kd.R_alloc | apply Kd.R_drewN | apply Kd.R_drew)); exact Kd.R_mono HO_8.out (fun _ hk => trivial)⟩, ⟨by repeat (first | (with_reducible first | exact HB.out | apply below_alloc | apply pw_below_drewN | apply below_drew1 | refine below_set ?_ GE121.out) | exact HB.out)⟩⟩
                 ·rw [if_neg c62] at H
                  exact absurd H (by simp)
                ·rw [if_neg c61] at H
                 exact absurd H (by simp)
              ·rw [if_neg c50] at H
               have c50b0 : ((rd x3_1 x68_2) == x9_2) = false := beq_eq_false_iff_ne.mpr c50
               have c50b1 : ((rd x3_1 x68_2) != x9_2) = true := bne_iff_ne.mpr c50
               have H' := Aside0.mk H
               clear H
               have p120 : 0 ≤ (x68_2 : Int) := of_decide_eq_true (by first | (with_reducible assumption) | assumption)
               have q120 : x68_2 < (l0.length : Int) := of_decide_eq_true (by first | (with_reducible assumption) | assumption)
               obtain ⟨ad120, e120, hx120_0, hx120_1⟩ := at_T27 HR0.out x68_2 p120 q120
               cases e120
               replace hx120_0 := (HB.out.cell (World.block_lt_of_cell? w _ hx120_0)).trans hx120_0
               replace hx120_1 := (HB.out.cell (World.block_lt_of_cell? w _ hx120_1)).trans hx120_1
               replace p120 := eq_true p120
               replace q120 := eq_true q120
               try go_wp2_with (first | ((with_reducible refine gate_dst (N := 11) rfl ?_); (try (refine gate_guard (by rfl) ?_; dsimp only)); refine box_event ?hg (N := 11) ?hd (cs := #[.int .i64 0, .int .i64 0]) (t := 27) ?hr ?_; (case hd => rfl); (case hg => rfl); (case hr => first | (go_simp; done) | (go_simp; rfl)); intro gb121 hg w80 hbox hb; have n0_ := Aside0.mk (Kd.R_below (by (with_reducible repeat (first | apply Kd.R_alloc | apply Kd.R_drewN | apply Kd.R_drew)); exact HO_3.out) hb); have n1_ := Aside0.mk (Kd.R_below (Kd.R_elderB (by (with_reducible repeat (first | apply Kd.R_alloc | apply Kd.R_drewN | apply Kd.R_drew)); exact HO_8.out) gb121 (Nat.le_of_eq hg.symm)) hb); have n2_ := Aside0.mk (below_step (by repeat (first | (with_reducible first | exact HB.out | apply below_alloc | apply pw_below_drewN | apply below_drew1) | exact HB.out)) hb); have n3_ := Aside0.mk (hbox); have n4_ := Aside0.mk ((by rw [hg]; exact (below_size (by repeat (first | (with_reducible first | exact HB.out | apply below_alloc | apply pw_below_drewN | apply below_drew1) | exact HB.out))) : w.heap.size ≤ gb121)); have n5_ := Aside0.mk ((by rw [hg]; exact (below_size (by repeat (first | (with_reducible first | exact HB.out | apply below_alloc | apply pw_below_drewN | apply below_drew1) | exact HB.out))) : w.heap.size ≤ gb121)); clear HO_3; clear HO_8; clear HB; have HO_3 := n0_; have HO_8 := n1_; have HB := n2_; have BK121 := n3_; have GW121 := n4_; have GE121 := n5_; clear n0_ n1_ n2_ n3_ n4_ n5_; clear hb hbox hg; have hcz81_0 : w80.cell? ⟨gb121, 0, none⟩ = some (.int .i64 0) := (blk_cell BK121.out 0).trans rfl; have hcz81_1 : w80.cell? ⟨gb121, 1, none⟩ = some (.int .i64 0) := (blk_cell BK121.out 1).trans rfl; have hfz81_0 := blk_frozen BK121.out 0; have hfz81_1 := blk_frozen BK121.out 1))
               have n0_ : Aside0 (Kd.R (Kd.int .i64) 3 ((w80.setCell ⟨gb121, 0, none⟩ (.int .i64 ((rd_T27 l0 x68_2).f0))).setCell ⟨gb121, 1, none⟩ (.int .i64 ((rd_T27 l0 x68_2).f1))) w.heap.size (fun _ => True) (.slice Ao45 x3_1.length co45) x3_1) := ⟨by (with_reducible repeat (first | apply Kd.R_alloc | apply Kd.R_drewN | apply Kd.R_drew)); exact Kd.R_mono (Kd.R_far (p := ⟨gb121, 1, none⟩) (Kd.R_far (p := ⟨gb121, 0, none⟩) (Kd.R_types HO_3.out BK121.out (by decide)) (fun _ hk => hk.2) (.int .i64 ((rd_T27 l0 x68_2).f0))) (fun _ hk => hk.2) (.int .i64 ((rd_T27 l0 x68_2).f1))) (fun _ hk => trivial)⟩
               have n1_ : Aside0 (Kd.R k27 27 ((w80.setCell ⟨gb121, 0, none⟩ (.int .i64 ((rd_T27 l0 x68_2).f0))).setCell ⟨gb121, 1, none⟩ (.int .i64 ((rd_T27 l0 x68_2).f1))) w.heap.size (fun k_ => k_ ≠ gb121) u8 x8_2) := ⟨by (with_reducible repeat (first | apply Kd.R_alloc | apply Kd.R_drewN | apply Kd.R_drew)); exact Kd.R_mono (Kd.R_far (p := ⟨gb121, 1, none⟩) (Kd.R_far (p := ⟨gb121, 0, none⟩) (Kd.R_mono HO_8.out (fun k_ hk => (⟨hk, hk.2⟩ : _ ∧ k_ ≠ gb121))) (fun _ hk => hk.2) (.int .i64 ((rd_T27 l0 x68_2).f0))) (fun _ hk => hk.2) (.int .i64 ((rd_T27 l0 x68_2).f1))) (fun _ hk => hk.1.2)⟩
               have n2_ : Aside0 (((w80.setCell ⟨gb121, 0, none⟩ (.int .i64 ((rd_T27 l0 x68_2).f0))).setCell ⟨gb121, 1, none⟩ (.int .i64 ((rd_T27 l0 x68_2).f1))).heap[gb121]? = some (.cells #[.int .i64 ((rd_T27 l0 x68_2).f0), .int .i64 ((rd_T27 l0 x68_2).f1)] 27 (0, 0))) := ⟨by (with_reducible repeat (first | refine blk_drewN ?_ _ | refine blk_drew ?_ | refine blk_alloc ?_ _)); refine blk_put (cs := #[.int .i64 ((rd_T27 l0 x68_2).f0), .int .i64 0]) ?_ 1 _ rfl; (with_reducible repeat (first | refine blk_drewN ?_ _ | refine blk_drew ?_ | refine blk_alloc ?_ _)); refine blk_put (cs := #[.int .i64 0, .int .i64 0]) ?_ 0 _ rfl; (with_reducible repeat (first | refine blk_drewN ?_ _ | refine blk_drew ?_ | refine blk_alloc ?_ _)); exact BK121.out⟩
               have n3_ : Aside0 (Below w.heap.size w ((w80.setCell ⟨gb121, 0, none⟩ (.int .i64 ((rd_T27 l0 x68_2).f0))).setCell ⟨gb121, 1, none⟩ (.int .i64 ((rd_T27 l0 x68_2).f1)))) := ⟨by repeat (first | (with_reducible first | exact HB.out | apply below_alloc | apply pw_below_drewN | apply below_drew1 | refine below_set ?_ GE121.out) | exact HB.out)⟩
               (try clear HO_3)
               (try clear HO_8)
               (try clear BK121)
               (try clear HB)
               generalize ((w80.setCell ⟨gb121, 0, none⟩ (.int .i64 ((rd_T27 l0 x68_2).f0))).setCell ⟨gb121, 1, none⟩ (.int .i64 ((rd_T27 l0 x68_2).f1))) = w82 at n0_ n1_ n2_ n3_ ⊢
               have HO_3 := n0_
               have HO_8 := n1_
               have BK121 := n2_
               have HB := n3_
               clear n0_ n1_ n2_ n3_
               have n0_ := Aside0.mk (Kd.R_drew HO_3.out)
               have n1_ := Aside0.mk (Kd.R_drew HO_8.out)
               have n2_ := Aside0.mk (blk_drew BK121.out)
               have n3_ := Aside0.mk (below_drew1 HB.out)
               clear HO_3
               clear HO_8
               clear BK121
               clear HB
               have HO_3 := n0_
               have HO_8 := n1_
               have BK121 := n2_
               have HB := n3_
               clear n0_ n1_ n2_ n3_
               have p122 : 0 ≤ (x68_2 : Int) := of_decide_eq_true (by first | (with_reducible assumption) | assumption)
               have q122 : x68_2 < (x3_1.length : Int) := of_decide_eq_true (by first | (with_reducible assumption) | assumption)
               obtain ⟨ad122, e122, hx122_0⟩ := Kd.at_int (Kd.R_reads' HO_3.out).2.2 x68_2 p122 q122
               cases e122
               replace p122 := eq_true p122
               replace q122 := eq_true q122
               refine start_ (n := 22) (S := fun w' => w'.cell? (ad122.add (x68_2).toNat) = some (.int .i64 (rd x3_1 x68_2))) (ds := []) #[false, false, false, false, false, false, false, false, false, false, false, false, false, false, false, false, false, false, false, false, false, false] (by kernel_rfl) rfl rfl (hx122_0) (fun hHeld => ?_); refine with_tabW patience_Longest.tab20 patience_Longest.bits20 (fun HT_ HW_ => ?_)
               generalize w82.drew = w83 at HO_3 HO_8 BK121 HB hx122_0 hHeld ⊢
               refine pw_ 0 73 patience_Longest.aa_0 HT_.out ?_
               refine pw_ 1 74 patience_Longest.aa_1 HT_.out ?_
               refine pw_ 2 75 patience_Longest.aa_2 HT_.out ?_
               refine pw_ 4 77 patience_Longest.aa_3 HT_.out ?_
               refine take_ (i := 3) (N := some 76) (v := ?_) (a' := ?_) patience_Longest.aa_4 rfl rfl (take_ofW HT_.out HW_.out (by kernel_rfl)) (fun _ _ _ h => h) (Or.inl ⟨by rfl, ?_⟩) hHeld ?_ ?_
               rotate_left
               ·intro w' s0
                go_simp
                with_reducible rfl
               rotate_left
               ·simp only [Act.put, List.setIfInBounds_toArray, List.set_cons_zero, List.set_cons_succ, i64_w, i32_w]
                rfl
               refine pw_ 5 78 patience_Longest.aa_5 HT_.out ?_
               refine pw_ 6 79 patience_Longest.aa_6 HT_.out ?_
               refine pu_ 7 80 patience_Longest.aa_7 HT_.out ?_
               refine pu_ 8 81 patience_Longest.aa_8 HT_.out ?_
               refine pu_ 9 82 patience_Longest.aa_9 HT_.out ?_
               refine pu_ 10 83 patience_Longest.aa_10 HT_.out ?_
               refine pu_ 11 84 patience_Longest.aa_11 HT_.out ?_
               refine pu_ 12 85 patience_Longest.aa_12 HT_.out ?_
               refine pu_ 13 86 patience_Longest.aa_13 HT_.out ?_
               refine pu_ 14 87 patience_Longest.aa_14 HT_.out ?_
               refine pu_ 15 88 patience_Longest.aa_15 HT_.out ?_
               refine pu_ 16 89 patience_Longest.aa_16 HT_.out ?_
               refine pu_ 17 90 patience_Longest.aa_17 HT_.out ?_
               refine pu_ 18 91 patience_Longest.aa_18 HT_.out ?_
               refine pu_ 19 92 patience_Longest.aa_19 HT_.out ?_
               refine pu_ 20 93 patience_Longest.aa_20 HT_.out ?_
               refine pw_ 21 94 patience_Longest.aa_21 HT_.out ?_
               refine done_ (done_of HT_.out (by kernel_rfl)) ?_
               try go_wp2
               go_roundg k2
               case measure => have := HK1.out; have := HK2.out; omega
               case rel => exact ⟨(x8_2), (x9_2), (wrap64 (x68_2 + 1)), (by first | rfl | (simp; done) | (simp [*]; done)), (by first | rfl | (simp; done) | (simp [*]; done)), H', ⟨by have := HK1.out; have := HK2.out; omega⟩, ⟨by (with_reducible repeat (first | apply Kd.R_alloc | apply Kd.R_drewN | apply Kd.R_drew)); exact HO_3.out⟩, ⟨by (with_reducible repeat (first | apply Kd.R_alloc | apply Kd.R_drewN | apply Kd.R_drew)); exact Kd.R_mono HO_8.out (fun _ hk => trivial)⟩, ⟨by repeat (first | (with_reducible first | exact HB.out | apply below_alloc | apply pw_below_drewN | apply below_drew1 | refine below_set ?_ GE121.out) | exact HB.out)⟩⟩
             ·rw [if_neg c49] at H
              exact absurd H (by simp)
            ·rw [if_neg c48] at H
             exact absurd H (by simp)
           ·rw [if_neg c47] at H
            exact absurd H (by simp)
          ·rw [if_neg c46] at H
           have c46b0 : decide (x68_2 < (l0.length : Int)) = false := decide_eq_false c46
           clear c46
           obtain rfl := Option.some.inj H
           go_wp2
           go_ret
           exact ⟨_, by first | rfl | (simp [errW_none, errW_some] <;> rfl) | (simp [*, errW_none, errW_some] <;> rfl), by (with_reducible repeat (first | apply Kd.R_alloc | apply Kd.R_drewN | apply Kd.R_drew)); exact HO_8.out, by repeat (first | (with_reducible first | exact HB.out | apply below_alloc | apply pw_below_drewN | apply below_drew1) | exact HB.out)⟩
   ·rw [if_neg c3] at H
    exact absurd H (by simp)
  ·rw [if_neg c2] at H
   exact absurd H (by simp)
end Go.Proofs.Ytonbplflmdpikaa.X
