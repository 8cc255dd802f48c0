import Derived.Test.YtonbplflmdpikaaZDXx0
import Derived.Test.YtonbplflmdpikaaZDXx9
import Derived.Test.YtonbplflmdpikaaZDWA
namespace Go.Proofs.Ytonbplflmdpikaa.X
open Go.RowKit Go.Proofs.YtonbplflmdpikaaW.PrintWords Go.Proofs.YtonbplflmdpikaaW.PrintLast Go.Proofs.YtonbplflmdpikaaW.PrintMore
attribute [local go_sem] max2_int min2_int max_two min_two max_three min_three max_four min_four   -- for this text's walks alone
open Go.Proofs.YtonbplflmdpikaaW.HandWords Go.Proofs.YtonbplflmdpikaaW.HandShort
set_option linter.unusedVariables false
set_option linter.unusedSimpArgs false
mutual
def redlineref07_Longest.l0 : Nat → List (S26) → List Int → Int → Int → Option ((List (S26)))
  | 0, _, _, _, _ => none
  | k + 1, x0, x3, x4, x5 => if x5 ≥ 0 then (if 0 ≤ x5 then (if x5 < (x3.length : Int) then (redlineref07_Longest.l1 k x0 (x3.set (x5 : Int).toNat 1) x4 x5 (wrap64 (x5 + 1))) else (none)) else (none)) else (redlineref07_Longest.l2 k x0 x3 x4 ([] : List (S26)) 0)
def redlineref07_Longest.l1 : Nat → List (S26) → List Int → Int → Int → Int → Option ((List (S26)))
  | 0, _, _, _, _, _ => none
  | k + 1, x0, x3, x4, x5, x6 => if x6 < (x0.length : Int) then (if 0 ≤ x5 then (if x5 < (x0.length : Int) then (if 0 ≤ x6 then ((redlineref07_rises.f ((rd_T26 x0 x5).f0) ((rd_T26 x0 x5).f1) ((rd_T26 x0 x6).f0) ((rd_T26 x0 x6).f1)).bind fun t153 => (if t153 = true then (if x5 < (x3.length : Int) then (if x6 < (x3.length : Int) then (redlineref07_Longest.l1 k x0 (x3.set (x5 : Int).toNat (mx (rd x3 x5) (wrap64 ((rd x3 x6) + 1)))) x4 x5 (wrap64 (x6 + 1))) else (none)) else (none)) else (redlineref07_Longest.l1 k x0 x3 x4 x5 (wrap64 (x6 + 1))))) else (none)) else (none)) else (none)) else (if 0 ≤ x5 then (if x5 < (x3.length : Int) then (redlineref07_Longest.l0 k x0 x3 (mx x4 (rd x3 x5)) (wrap64 (x5 - 1))) else (none)) else (none))
def redlineref07_Longest.l2 : Nat → List (S26) → List Int → Int → List (S26) → Int → Option ((List (S26)))
  | 0, _, _, _, _, _ => none
  | k + 1, x0, x3, x4, x7, x8 => if x8 < (x0.length : Int) then (redlineref07_Longest.j3 k x0 x3 x4 x7 x8 (decide (x4 > 0))) else (redlineref07_Longest.j3 k x0 x3 x4 x7 x8 false)
def redlineref07_Longest.j3 : Nat → List (S26) → List Int → Int → List (S26) → Int → Bool → Option ((List (S26)))
  | 0, _, _, _, _, _, _ => none
  | k + 1, x0, x3, x4, x7, x8, x65 => if x65 = true then (if 0 ≤ x8 then (if x8 < (x3.length : Int) then (if (rd x3 x8) = x4 then (if (x7.length : Int) = 0 then (if x8 < (x0.length : Int) then (if x7.length < 8796093022208 then (redlineref07_Longest.l2 k x0 x3 (wrap64 (x4 - 1)) (x7 ++ [(⟨(rd_T26 x0 x8).f0, (rd_T26 x0 x8).f1⟩ : S26)]) (wrap64 (x8 + 1))) else (none)) else (none)) else (if 0 ≤ (wrap64 ((x7.length : Int) - 1)) then (if (wrap64 ((x7.length : Int) - 1)) < (x7.length : Int) then (if x8 < (x0.length : Int) then ((redlineref07_rises.f ((rd_T26 x7 (wrap64 ((x7.length : Int) - 1))).f0) ((rd_T26 x7 (wrap64 ((x7.length : Int) - 1))).f1) ((rd_T26 x0 x8).f0) ((rd_T26 x0 x8).f1)).bind fun t165 => (if t165 = true then (if x7.length < 8796093022208 then (redlineref07_Longest.l2 k x0 x3 (wrap64 (x4 - 1)) (x7 ++ [(⟨(rd_T26 x0 x8).f0, (rd_T26 x0 x8).f1⟩ : S26)]) (wrap64 (x8 + 1))) else (none)) else (redlineref07_Longest.l2 k x0 x3 x4 x7 (wrap64 (x8 + 1))))) else (none)) else (none)) else (none))) else (redlineref07_Longest.l2 k x0 x3 x4 x7 (wrap64 (x8 + 1)))) else (none)) else (none)) else (some x7)
end
def redlineref07_Longest.f (k : Nat) (l0 : List (S26)) : Option ((List (S26))) := if 0 ≤ (l0.length : Int) then (if ((l0.length : Int) : Int).toNat ≤ 35184372088832 then (redlineref07_Longest.l0 k l0 (List.replicate ((l0.length : Int) : Int).toNat 0) 0 (wrap64 ((l0.length : Int) - 1))) else (none)) else (none)
def redlineref07_Longest.T10 : Bool × List (List Nat × List Nat) := (true, [([], []), ([], []), ([0, 1], [0, 1]), ([2], [2]), ([], []), ([], []), ([4, 5], [4, 5]), ([6], [6]), ([3, 7], [3, 7])])
def redlineref07_Longest.B10 : List Nat := [0, 0, 3, 7, 0, 0, 48, 112, 255]
theorem redlineref07_Longest.tab10 : rtab .any (opsOf Try.f11 10) = redlineref07_Longest.T10 := by kernel_rfl
theorem redlineref07_Longest.bits10 : waitsOk redlineref07_Longest.T10.2 redlineref07_Longest.B10 = true := by kernel_rfl
def redlineref07_Longest.T11 : Bool × List (List Nat × List Nat) := (true, [([], []), ([], []), ([], []), ([], []), ([2, 3], [2, 3]), ([4], [4]), ([], []), ([], []), ([6, 7], [6, 7]), ([8], [8]), ([9], [9]), ([5, 10], [5, 10]), ([0, 1, 0, 1, 2, 3, 4, 5, 6, 7, 8, 9, 10, 11], [0, 1]), ([12, 11, 0, 1, 2, 3, 4, 5, 6, 7, 8, 9, 10, 11], [11, 12])])
def redlineref07_Longest.B11 : List Nat := [0, 0, 0, 0, 12, 28, 0, 0, 192, 448, 960, 2044, 4095, 8191]
theorem redlineref07_Longest.tab11 : rtab .any (opsOf Try.f11 11) = redlineref07_Longest.T11 := by kernel_rfl
theorem redlineref07_Longest.bits11 : waitsOk redlineref07_Longest.T11.2 redlineref07_Longest.B11 = true := by kernel_rfl
def redlineref07_Longest.T17 : Bool × List (List Nat × List Nat) := (true, [([], []), ([], []), ([0, 1], [0, 1]), ([2], [2]), ([], []), ([3, 4], [3, 4]), ([5], [5]), ([6], [6]), ([7, 6], [6, 7]), ([8, 6], [6, 8]), ([9, 6, 6], [6, 9]), ([10], [10]), ([10], [10]), ([12, 10], [10, 12]), ([13, 10], [10, 13]), ([11, 14, 10], [10, 11, 14]), ([15, 10], [10, 15]), ([10], [10]), ([10], [10]), ([17, 18, 10], [10, 17, 18]), ([19, 10], [10, 19]), ([16, 20, 10, 10], [10, 16, 20]), ([10, 21, 6], [6, 10, 21]), ([6, 22], [6, 22])])
def redlineref07_Longest.B17 : List Nat := [0, 0, 3, 7, 0, 31, 63, 127, 255, 511, 1023, 2047, 2047, 6143, 14335, 32767, 65535, 2047, 2047, 395263, 919551, 2097151, 4194303, 8388607]
theorem redlineref07_Longest.tab17 : rtab .any (opsOf Try.f11 17) = redlineref07_Longest.T17 := by kernel_rfl
theorem redlineref07_Longest.bits17 : waitsOk redlineref07_Longest.T17.2 redlineref07_Longest.B17 = true := by kernel_rfl
def redlineref07_Longest.aa_0 : Array Bool := #[true, false, false, false, false, false, false, false, false, false, false, false, false, false, false, false, false, false, false, false, false, false, false, false]
def redlineref07_Longest.aa_1 : Array Bool := #[true, true, false, false, false, false, false, false, false, false, false, false, false, false, false, false, false, false, false, false, false, false, false, false]
def redlineref07_Longest.aa_2 : Array Bool := #[true, true, true, false, false, false, false, false, false, false, false, false, false, false, false, false, false, false, false, false, false, false, false, false]
def redlineref07_Longest.aa_3 : Array Bool := #[true, true, true, false, true, false, false, false, false, false, false, false, false, false, false, false, false, false, false, false, false, false, false, false]
def redlineref07_Longest.aa_4 : Array Bool := #[true, true, true, true, true, false, false, false, false, false, false, false, false, false, false, false, false, false, false, false, false, false, false, false]
def redlineref07_Longest.aa_5 : Array Bool := #[true, true, true, true, true, true, false, false, false, false, false, false, false, false, false, false, false, false, false, false, false, false, false, false]
def redlineref07_Longest.aa_6 : Array Bool := #[true, true, true, true, true, true, true, false, false, false, false, false, false, false, false, false, false, false, false, false, false, false, false, false]
def redlineref07_Longest.aa_7 : Array Bool := #[true, true, true, true, true, true, true, true, false, false, false, false, false, false, false, false, false, false, false, false, false, false, false, false]
def redlineref07_Longest.aa_8 : Array Bool := #[true, true, true, true, true, true, true, true, true, false, false, false, false, false, false, false, false, false, false, false, false, false, false, false]
def redlineref07_Longest.aa_9 : Array Bool := #[true, true, true, true, true, true, true, true, true, true, false, false, false, false, false, false, false, false, false, false, false, false, false, false]
def redlineref07_Longest.aa_10 : Array Bool := #[true, true, true, true, true, true, true, true, true, true, true, false, false, false, false, false, false, false, false, false, false, false, false, false]
def redlineref07_Longest.aa_11 : Array Bool := #[true, true, true, true, true, true, true, true, true, true, true, true, false, false, false, false, false, false, false, false, false, false, false, false]
def redlineref07_Longest.aa_12 : Array Bool := #[true, true, true, true, true, true, true, true, true, true, true, true, true, false, false, false, false, false, false, false, false, false, false, false]
def redlineref07_Longest.aa_13 : Array Bool := #[true, true, true, true, true, true, true, true, true, true, true, true, true, true, false, false, false, false, false, false, false, false, false, false]
def redlineref07_Longest.aa_14 : Array Bool := #[true, true, true, true, true, true, true, true, true, true, true, true, true, true, true, false, false, false, false, false, false, false, false, false]
def redlineref07_Longest.aa_15 : Array Bool := #[true, true, true, true, true, true, true, true, true, true, true, true, true, true, true, true, false, false, false, false, false, false, false, false]
def redlineref07_Longest.aa_16 : Array Bool := #[true, true, true, true, true, true, true, true, true, true, true, true, true, true, true, true, true, false, false, false, false, false, false, false]
def redlineref07_Longest.aa_17 : Array Bool := #[true, true, true, true, true, true, true, true, true, true, true, true, true, true, true, true, true, true, false, false, false, false, false, false]
def redlineref07_Longest.aa_18 : Array Bool := #[true, true, true, true, true, true, true, true, true, true, true, true, true, true, true, true, true, true, true, false, false, false, false, false]
def redlineref07_Longest.aa_19 : Array Bool := #[true, true, true, true, true, true, true, true, true, true, true, true, true, true, true, true, true, true, true, true, false, false, false, false]
def redlineref07_Longest.aa_20 : Array Bool := #[true, true, true, true, true, true, true, true, true, true, true, true, true, true, true, true, true, true, true, true, true, false, false, false]
def redlineref07_Longest.aa_21 : Array Bool := #[true, true, true, true, true, true, true, true, true, true, true, true, true, true, true, true, true, true, true, true, true, true, false, false]
def redlineref07_Longest.aa_22 : Array Bool := #[true, true, true, true, true, true, true, true, true, true, true, true, true, true, true, true, true, true, true, true, true, true, true, false]
def redlineref07_Longest.aa_23 : Array Bool := #[true, true, true, true, true, true, true, true, true, true, true, true, true, true, true, true, true, true, true, true, true, true, true, true]
def redlineref07_Longest.aa_24 : Array Bool := #[true, true, true, true, true, true, true, true, true, true, true, true, true, true, true, true, false, true, false, false, false, false, false, false]
def redlineref07_Longest.aa_25 : Array Bool := #[true, true, true, true, true, true, true, true, true, true, true, true, true, true, true, true, false, true, true, false, false, false, false, false]
def redlineref07_Longest.aa_26 : Array Bool := #[true, true, true, true, true, true, true, true, true, true, true, true, true, true, true, true, false, true, true, true, false, false, false, false]
set_option maxHeartbeats 8000000 in
set_option maxRecDepth 100000 in
theorem redlineref07_Longest.calls (k : Nat) (A0 : Option Addr) (c0 : Nat) (l0 : List (S26)) (r : List (S26)) (w : World) (hr0 : Kd.C k26 w A0 l0.length l0) (hc0 : l0.length ≤ c0) (h : redlineref07_Longest.f k l0 = some r) :
    Calls Try.prog 11 #[.slice A0 l0.length c0] w fun e w' => ∃ v0_ : Value, e = .returned (v0_) ∧ Kd.R k26 26 w' w.heap.size (fun _ => True) v0_ r ∧ Below w.heap.size w w' := by
  have hu26 := Try.underlying26
  have HR0 := Aside0.mk hr0
  have HC0 := Aside0.mk hc0
  clear hr0 hc0
  have HB := Aside0.mk (Below.refl w.heap.size w)
  have H : (if 0 ≤ (l0.length : Int) then (if ((l0.length : Int) : Int).toNat ≤ 35184372088832 then (redlineref07_Longest.l0 k l0 (List.replicate ((l0.length : Int) : Int).toNat 0) 0 (wrap64 ((l0.length : Int) - 1))) else (none)) else (none)) = some r := h
  clear h
  by_cases c2 : 0 ≤ (l0.length : Int)
  ·rw [if_pos c2] at H
   have c2b0 := eq_true c2
   have c2b1 : decide (0 ≤ (l0.length : Int)) = true := decide_eq_true c2
   clear c2
   by_cases c3 : ((l0.length : Int) : Int).toNat ≤ 35184372088832
   ·rw [if_pos c3] at H
    have c3b0 := eq_true c3
    have c3b1 : decide (((l0.length : Int) : Int).toNat ≤ 35184372088832) = true := decide_eq_true c3
    clear c3
    obtain ⟨y147, hy147⟩ : ∃ y_ : List Int, y_ = (List.replicate ((l0.length : Int) : Int).toNat 0) := ⟨_, rfl⟩
    replace H : (redlineref07_Longest.l0 k l0 y147 0 (wrap64 ((l0.length : Int) - 1))) = some r := by first | (rw [hy147]; with_reducible exact H) | (have H2_ := (Option.bind_some _ _).symm.trans H; rw [hy147]; with_reducible exact H2_) | (have H2_ := (Option.bind_some _ _).symm.trans H; with_reducible exact H2_) | with_reducible exact H | (rw [hy147]; exact H) | exact H
    have Ny147 := Aside0.mk hy147
    clear hy147
    have H' := Aside0.mk H
    clear H
    go_enter Try.func11, Try.ntmps11
    go_wp2_with (first | ((with_reducible refine gate_dst (N := 11) rfl ?_); (try (refine gate_guard (by rfl) ?_; dsimp only)); refine Kd.R_make (Kd.int .i64) _ 3 rfl (N := 11) rfl 22 _ _ rfl (l0.length : Int) rfl rfl Try.underlying22 (.int .i64 0) 8 info3 rfl (by decide) (by omega) 0 (ok := fun _ => True) (okp := fun _ => True) rfl (fun _ hk => hk) trivial (of_decide_eq_true (by first | (with_reducible assumption) | assumption)) (Nat.le_trans (Nat.mul_le_mul_right _ (of_decide_eq_true (by first | (with_reducible assumption) | assumption) : (l0.length : Int).toNat ≤ 35184372088832)) (by omega)) (Below.refl _ _) (Nat.le_refl _) ?_; intro v148 w4 ho5 hb hg_ hnew_; clear hg_ hnew_; (first | rw [← Ny147.out] at ho5 | (simp only [Int.reduceToNat] at ho5; rw [← Ny147.out] at ho5)); have n0_ := Aside0.mk (Kd.R_lower ho5 (below_size (by repeat (first | (with_reducible first | exact HB.out | apply below_alloc | apply pw_below_drewN | apply below_drew1) | exact HB.out)))); have n1_ := Aside0.mk (below_step (by repeat (first | (with_reducible first | exact HB.out | apply below_alloc | apply pw_below_drewN | apply below_drew1) | exact HB.out)) hb); clear HB; have HO149 := n0_; have HB := n1_; clear n0_ n1_; clear hb ho5))
    go_loopg [4, 5] k (fun kq v4 v5 w' => ∃ (x3_1 : List Int) (x4_1 : Int) (x5_1 : Int), v4 = .int .i64 x4_1 ∧ v5 = .int .i64 x5_1 ∧ Aside0 (redlineref07_Longest.l0 kq l0 x3_1 x4_1 x5_1 = some r) ∧ Aside0 (kq ≤ k) ∧ Aside0 (Kd.R (Kd.int .i64) 3 w' w.heap.size (fun _ => True) v148 x3_1) ∧ Aside0 (Below w.heap.size w w'))
    case atStart => exact ⟨(y147), (0), (wrap64 ((l0.length : Int) - 1)), (by first | rfl | (simp; done) | (simp [*]; done)), (by first | rfl | (simp; done) | (simp [*]; done)), H', ⟨Nat.le_refl _⟩, ⟨by (with_reducible repeat (first | apply Kd.R_alloc | apply Kd.R_drewN | apply Kd.R_drew)); exact HO149.out⟩, ⟨by repeat (first | (with_reducible first | exact HB.out | apply below_alloc | apply pw_below_drewN | apply below_drew1) | exact HB.out)⟩⟩
    case round =>
     clear H'
     try clear c1
     try clear c2
     try clear c2b0
     try clear c2b1
     try clear p2
     try clear c3
     try clear c3b0
     try clear c3b1
     obtain ⟨x3_1, x4_1, x5_1, rfl, rfl, HA, HK1, HO_3, HB⟩ := hrel
     cases gk with
     | zero => exact absurd HA.out (by simp [redlineref07_Longest.l0])
     | succ k1 =>
      have H := HA.out
      clear HA
      simp only [redlineref07_Longest.l0] at H
      by_cases c6 : x5_1 ≥ 0
      ·rw [if_pos c6] at H
       have c6b0 : decide (0 ≤ x5_1) = true := decide_eq_true c6
       clear c6
       by_cases c7 : 0 ≤ x5_1
       ·rw [if_pos c7] at H
        have c7b0 : decide (0 ≤ x5_1) = true := decide_eq_true c7
        clear c7
        by_cases c8 : x5_1 < (x3_1.length : Int)
        ·rw [if_pos c8] at H
         have c8b0 : decide (x5_1 < (x3_1.length : Int)) = true := decide_eq_true c8
         clear c8
         obtain ⟨y150, hy150⟩ : ∃ y_ : List Int, y_ = (x3_1.set (x5_1 : Int).toNat 1) := ⟨_, rfl⟩
         replace H : (redlineref07_Longest.l1 k1 l0 y150 x4_1 x5_1 (wrap64 (x5_1 + 1))) = some r := by first | (rw [hy150]; with_reducible exact H) | (have H2_ := (Option.bind_some _ _).symm.trans H; rw [hy150]; with_reducible exact H2_) | (have H2_ := (Option.bind_some _ _).symm.trans H; with_reducible exact H2_) | with_reducible exact H | (rw [hy150]; exact H) | exact H
         have Ny150 := Aside0.mk hy150
         clear hy150
         have H' := Aside0.mk H
         clear H
         have p9 : 0 ≤ (x5_1 : Int) := of_decide_eq_true (by first | (with_reducible assumption) | assumption)
         have q9 : (x5_1 : Int) < ((x3_1.length : Int) : Int) := of_decide_eq_true (by first | (with_reducible assumption) | assumption)
         obtain ⟨go9, co9, eo9, gb9, gl9, cl9, HG9⟩ := Kd.R_form HO_3.out (by omega)
         (first | cases eo9 | (injection eo9 with ea_ en_ ec_; (first | subst ea_ | (injection ea_ with ea_; subst ea_)); subst ec_; clear en_))
         have GB9 := Aside0.mk gb9
         have GG9 := Aside0.mk HG9
         clear gb9 gl9 HG9
         obtain ⟨hx9_0, hf9_0⟩ := Kd.R_celln 0 HO_3.out (x5_1 : Int) p9 q9
         replace p9 := eq_true p9
         replace q9 := eq_true q9
         have HP10 := Kd.R_putg HO_3.out (x5_1 : Int) 1
         go_wp2_with (first | ((with_reducible refine gate_store (t := 3) (p := 21) rfl ?_); refine store_event (t := 3) (p := 21) (v := ?vo_w11) (w1 := (wr.setCell ⟨go9, (x5_1 : Int).toNat, none⟩ (.int .i64 1))) ?hg ?ho ?hn ?hr ?_; (case ho => rfl); (case hg => rfl); (case hn => rfl); (case hr => first | (go_simp; done) | (go_simp; rfl)); intro w11 hw; have hg : wr.grownBy w11 (some go9) := (by rw [hw]; exact HP10.2); have hp_ : Kd.R (Kd.int .i64) 3 w11 w.heap.size (fun _ => True) (.slice (some ⟨go9, 0, none⟩) x3_1.length co9) y150 := (by rw [hw, Ny150.out]; exact HP10.1); clear HP10; have n0_ := Aside0.mk (hp_); have n1_ := Aside0.mk ((by rw [hw]; exact below_set (HB.out) GB9.out : Below w.heap.size w w11)); clear HO_3; clear HB; have HO_3 := n0_; have HB := n1_; clear n0_ n1_; clear hg hw hp_))
         go_loopg [6] k1 (fun kq v6 w' => ∃ (x3_2 : List Int) (x6_2 : Int), v6 = .int .i64 x6_2 ∧ Aside0 (redlineref07_Longest.l1 kq l0 x3_2 x4_1 x5_1 x6_2 = some r) ∧ Aside0 (kq ≤ k1) ∧ Aside0 (Kd.R (Kd.int .i64) 3 w' w.heap.size (fun _ => True) (.slice (some ⟨go9, 0, none⟩) x3_1.length co9) x3_2) ∧ Aside0 (Below w.heap.size w w'))
         case atStart => exact ⟨(y150), (wrap64 (x5_1 + 1)), (by first | rfl | (simp; done) | (simp [*]; done)), H', ⟨Nat.le_refl _⟩, ⟨by (with_reducible repeat (first | apply Kd.R_alloc | apply Kd.R_drewN | apply Kd.R_drew)); exact HO_3.out⟩, ⟨by repeat (first | (with_reducible first | exact HB.out | apply below_alloc | apply pw_below_drewN | apply below_drew1) | exact HB.out)⟩⟩
         case round =>
          clear H'
          try clear c1
          try clear c2
          try clear c2b0
          try clear c2b1
          try clear p2
          try clear c3
          try clear c3b0
          try clear c3b1
          try clear c6
          try clear c6b0
          try clear p6
          try clear c7
          try clear c7b0
          try clear c8
          try clear c8b0
          try clear p9
          try clear q9
          try clear hx9
          try clear hf9
          try clear c11
          try clear hx9_0
          try clear p2
          try clear p9
          try clear q9
          obtain ⟨x3_2, x6_2, rfl, HA, HK2, HO_3, HB⟩ := hrel
          have hl3_2 := (Kd.R_reads' HO_3.out).1
          rw [hl3_2] at HO_3
          (try simp only [hl3_2])
          cases gk with
          | zero => exact absurd HA.out (by simp [redlineref07_Longest.l1])
          | succ k2 =>
           have H := HA.out
           clear HA
           simp only [redlineref07_Longest.l1] at H
           by_cases c12 : x6_2 < (l0.length : Int)
           ·rw [if_pos c12] at H
            have c12b0 : decide (x6_2 < (l0.length : Int)) = true := decide_eq_true c12
            clear c12
            by_cases c13 : 0 ≤ x5_1
            ·rw [if_pos c13] at H
             have c13b0 : decide (0 ≤ x5_1) = true := decide_eq_true c13
             clear c13
             by_cases c14 : x5_1 < (l0.length : Int)
             ·rw [if_pos c14] at H
              have c14b0 : decide (x5_1 < (l0.length : Int)) = true := decide_eq_true c14
              clear c14
              by_cases c15 : 0 ≤ x6_2
              ·rw [if_pos c15] at H
               have c15b0 : decide (0 ≤ x6_2) = true := decide_eq_true c15
               clear c15
               replace H := Option.bind_eq_some_iff.mp H
               obtain ⟨t153, A160, H⟩ := H
               replace H : (if t153 = true then (if x5_1 < (x3_2.length : Int) then (if x6_2 < (x3_2.length : Int) then (redlineref07_Longest.l1 k2 l0 (x3_2.set (x5_1 : Int).toNat (mx (rd x3_2 x5_1) (wrap64 ((rd x3_2 x6_2) + 1)))) x4_1 x5_1 (wrap64 (x6_2 + 1))) else (none)) else (none)) else (redlineref07_Longest.l1 k2 l0 x3_2 x4_1 x5_1 (wrap64 (x6_2 + 1)))) = some r := H
               have A16 := Aside0.mk A160
               clear A160
               by_cases c17 : t153 = true
               ·subst c17
                have H1 : (if x5_1 < (x3_2.length : Int) then (if x6_2 < (x3_2.length : Int) then (redlineref07_Longest.l1 k2 l0 (x3_2.set (x5_1 : Int).toNat (mx (rd x3_2 x5_1) (wrap64 ((rd x3_2 x6_2) + 1)))) x4_1 x5_1 (wrap64 (x6_2 + 1))) else (none)) else (none)) = some r := by rw [if_pos rfl] at H; exact H
                clear H
                have H := H1
                clear H1
                by_cases c18 : x5_1 < (x3_2.length : Int)
                ·rw [if_pos c18] at H
                 have c18b0 : decide (x5_1 < (x3_2.length : Int)) = true := decide_eq_true c18
                 clear c18
                 by_cases c19 : x6_2 < (x3_2.length : Int)
                 ·rw [if_pos c19] at H
                  have c19b0 : decide (x6_2 < (x3_2.length : Int)) = true := decide_eq_true c19
                  clear c19
                  obtain ⟨ji20, hji20⟩ : ∃ j_ : Int, (mx (rd x3_2 x5_1) (wrap64 ((rd x3_2 x6_2) + 1))) = j_ := ⟨_, rfl⟩
                  replace H : (redlineref07_Longest.l1 k2 l0 (x3_2.set (x5_1 : Int).toNat (ji20)) x4_1 x5_1 (wrap64 (x6_2 + 1))) = some r := by first | (rw [hji20] at H; exact H) | (simp only [hji20] at H ⊢; exact H)
                  (try rw [hji20] at A16)
                  have hji20_ : (if (rd x3_2 x5_1) < (wrap64 ((rd x3_2 x6_2) + 1)) then (wrap64 ((rd x3_2 x6_2) + 1)) else (rd x3_2 x5_1)) = ji20 := hji20
                  obtain ⟨y156, hy156⟩ : ∃ y_ : List Int, y_ = (x3_2.set (x5_1 : Int).toNat (ji20)) := ⟨_, rfl⟩
                  replace H : (redlineref07_Longest.l1 k2 l0 y156 x4_1 x5_1 (wrap64 (x6_2 + 1))) = some r := by first | (rw [hy156]; with_reducible exact H) | (have H2_ := (Option.bind_some _ _).symm.trans H; rw [hy156]; with_reducible exact H2_) | (have H2_ := (Option.bind_some _ _).symm.trans H; with_reducible exact H2_) | with_reducible exact H | (rw [hy156]; exact H) | exact H
                  have Ny156 := Aside0.mk hy156
                  clear hy156
                  have H' := Aside0.mk H
                  clear H
                  try go_wp2
                  have n0_ := Aside0.mk (Kd.R_drew HO_3.out)
                  have n1_ := Aside0.mk (below_drew1 HB.out)
                  clear HO_3
                  clear HB
                  have HO_3 := n0_
                  have HB := n1_
                  clear n0_ n1_
                  have p151 : 0 ≤ (x5_1 : Int) := of_decide_eq_true (by first | (with_reducible assumption) | assumption)
                  have q151 : x5_1 < (l0.length : Int) := of_decide_eq_true (by first | (with_reducible assumption) | assumption)
                  obtain ⟨ad151, e151, hx151_0, hx151_1⟩ := at_T26 HR0.out x5_1 p151 q151
                  have hw151_1 := hx151_1
                  have hw151_0 := hx151_0
                  cases e151
                  replace hx151_0 := (HB.out.cell (World.block_lt_of_cell? w _ hx151_0)).trans hx151_0
                  replace hx151_1 := (HB.out.cell (World.block_lt_of_cell? w _ hx151_1)).trans hx151_1
                  replace p151 := eq_true p151
                  replace q151 := eq_true q151
                  have p152 : 0 ≤ (x6_2 : Int) := of_decide_eq_true (by first | (with_reducible assumption) | assumption)
                  have q152 : x6_2 < (l0.length : Int) := of_decide_eq_true (by first | (with_reducible assumption) | assumption)
                  obtain ⟨ad152, e152, hx152_0, hx152_1⟩ := at_T26 HR0.out x6_2 p152 q152
                  have hw152_1 := hx152_1
                  have hw152_0 := hx152_0
                  obtain rfl : ad151 = ad152 := (by injection e152)
                  replace hx152_0 := (HB.out.cell (World.block_lt_of_cell? w _ hx152_0)).trans hx152_0
                  replace hx152_1 := (HB.out.cell (World.block_lt_of_cell? w _ hx152_1)).trans hx152_1
                  replace p152 := eq_true p152
                  replace q152 := eq_true q152
                  refine start_ (n := 9) (S := fun w' => w'.cell? (ad151.add ((x5_1).toNat * 2)) = some (.int .i64 ((rd_T26 l0 x5_1).f0)) ∧ w'.cell? ⟨(ad151.add ((x5_1).toNat * 2)).block, (ad151.add ((x5_1).toNat * 2)).off + 1, none⟩ = some (.int .i64 ((rd_T26 l0 x5_1).f1)) ∧ w'.cell? (ad151.add ((x6_2).toNat * 2)) = some (.int .i64 ((rd_T26 l0 x6_2).f0)) ∧ w'.cell? ⟨(ad151.add ((x6_2).toNat * 2)).block, (ad151.add ((x6_2).toNat * 2)).off + 1, none⟩ = some (.int .i64 ((rd_T26 l0 x6_2).f1))) (ds := []) #[false, false, false, false, false, false, false, false, false] (by kernel_rfl) rfl rfl ⟨((HB.out.cell (World.block_lt_of_cell? w _ hw151_0)).trans hw151_0), ((HB.out.cell (World.block_lt_of_cell? w _ hw151_1)).trans hw151_1), ((HB.out.cell (World.block_lt_of_cell? w _ hw152_0)).trans hw152_0), ((HB.out.cell (World.block_lt_of_cell? w _ hw152_1)).trans hw152_1)⟩ (fun hHeld => ?_); refine with_tabW redlineref07_Longest.tab10 redlineref07_Longest.bits10 (fun HT_ HW_ => ?_)
                  generalize wr.drew = w22 at HO_3 HB hx151_0 hx151_1 hx152_0 hx152_1 hHeld ⊢
                  refine pw_ 0 30 (ar 9 1) HT_.out ?_
                  refine pw_ 1 31 (ar 9 2) HT_.out ?_
                  refine pw_ 2 32 (ar 9 3) HT_.out ?_
                  refine pw_ 4 34 #[true, true, true, false, true, false, false, false, false] HT_.out ?_
                  refine pw_ 5 35 #[true, true, true, false, true, true, false, false, false] HT_.out ?_
                  refine pw_ 6 36 #[true, true, true, false, true, true, true, false, false] HT_.out ?_
                  refine take_ (i := 3) (N := some 33) (v := ?_) (a' := ?_) (ar 9 7) rfl rfl (take_ofW HT_.out HW_.out (by kernel_rfl)) (fun _ _ _ h => h) (Or.inl ⟨by rfl, ?_⟩) hHeld ?_ ?_
                  rotate_left
                  ·rintro w' ⟨s0, s1, s2, s3⟩
                   go_simp
                   with_reducible rfl
                  rotate_left
                  ·simp only [Act.put, List.setIfInBounds_toArray, List.set_cons_zero, List.set_cons_succ, i64_w, i32_w]
                   rfl
                  refine take_ (i := 7) (N := some 37) (v := ?_) (a' := ?_) (ar 9 8) rfl rfl (take_ofW HT_.out HW_.out (by kernel_rfl)) (fun _ _ _ h => h) (Or.inl ⟨by rfl, ?_⟩) hHeld ?_ ?_
                  rotate_left
                  ·rintro w' ⟨s0, s1, s2, s3⟩
                   go_simp
                   with_reducible rfl
                  rotate_left
                  ·simp only [Act.put, List.setIfInBounds_toArray, List.set_cons_zero, List.set_cons_succ, i64_w, i32_w]
                   rfl
                  refine one_ (i := 8) (N := some 38) (ar 9 9) rfl rfl (one_of HT_.out (by kernel_rfl)) (by decide) (fun K hK => ?_)
                  refine goes_ Try.func23 (by kernel_rfl) rfl #[.agg #[.int .i64 ((rd_T26 l0 x5_1).f0), .int .i64 ((rd_T26 l0 x5_1).f1)], .agg #[.int .i64 ((rd_T26 l0 x6_2).f0), .int .i64 ((rd_T26 l0 x6_2).f1)]] (by rfl) rfl rfl (by (try simp only [List.map_toArray, List.map_cons, List.map_nil]); first | done | rfl | (simp only [List.length_drop, List.length_take]; rfl)) ?_
                  with_reducible refine (redlineref07_rises.calls ((rd_T26 l0 x5_1).f0) ((rd_T26 l0 x5_1).f1) ((rd_T26 l0 x6_2).f0) ((rd_T26 l0 x6_2).f1) true _ A16.out).mono ?_
                  rintro e w23 ⟨rfl, hb⟩
                  refine ⟨_, rfl, ?_⟩
                  have n0_ := Aside0.mk (Kd.R_below (by (with_reducible repeat (first | apply Kd.R_alloc | apply Kd.R_drewN | apply Kd.R_drew)); exact HO_3.out) hb)
                  have n1_ := Aside0.mk (below_step (by repeat (first | (with_reducible first | exact HB.out | apply below_alloc | apply pw_below_drewN | apply below_drew1) | exact HB.out)) hb)
                  clear HO_3
                  clear HB
                  have HO_3 := n0_
                  have HB := n1_
                  clear n0_ n1_
                  (try clear hb)
                  (try clear hb2)
                  (try clear hk)
                  (try clear hi)
                  refine hK.out _ _ ⟨((HB.out.cell (World.block_lt_of_cell? w _ hw151_0)).trans hw151_0), ((HB.out.cell (World.block_lt_of_cell? w _ hw151_1)).trans hw151_1), ((HB.out.cell (World.block_lt_of_cell? w _ hw152_0)).trans hw152_0), ((HB.out.cell (World.block_lt_of_cell? w _ hw152_1)).trans hw152_1)⟩ (fun hHeld => ?_)
                  clear hK K
                  refine norm_ (a' := ?_) ?_ ?_
                  rotate_left
                  ·show Act.put _ (some 38) _ = _
                   simp only [Act.put, List.setIfInBounds_toArray, List.set_cons_zero, List.set_cons_succ, i64_w, i32_w]
                   rfl
                  refine done_ (done_of HT_.out (by kernel_rfl)) ?_
                  try go_wp2
                  have n0_ := Aside0.mk (Kd.R_drew HO_3.out)
                  have n1_ := Aside0.mk (below_drew1 HB.out)
                  clear HO_3
                  clear HB
                  have HO_3 := n0_
                  have HB := n1_
                  clear n0_ n1_
                  have p154 : 0 ≤ (x5_1 : Int) := of_decide_eq_true (by first | (with_reducible assumption) | assumption)
                  have q154 : x5_1 < (x3_2.length : Int) := of_decide_eq_true (by first | (with_reducible assumption) | assumption)
                  obtain ⟨ad154, e154, hx154_0⟩ := Kd.at_int (Kd.R_reads' HO_3.out).2.2 x5_1 p154 q154
                  obtain rfl : (⟨go9, 0, none⟩ : Addr) = ad154 := (by injection e154)
                  (first | simp only [add_plain] at hx154_0 | simp only [add_at] at hx154_0 | simp only [Addr.add, Nat.zero_add] at hx154_0 | skip)
                  replace p154 := eq_true p154
                  replace q154 := eq_true q154
                  have p155 : 0 ≤ (x6_2 : Int) := of_decide_eq_true (by first | (with_reducible assumption) | assumption)
                  have q155 : x6_2 < (x3_2.length : Int) := of_decide_eq_true (by first | (with_reducible assumption) | assumption)
                  obtain ⟨ad155, e155, hx155_0⟩ := Kd.at_int (Kd.R_reads' HO_3.out).2.2 x6_2 p155 q155
                  obtain rfl : (⟨go9, 0, none⟩ : Addr) = ad155 := (by injection e155)
                  (first | simp only [add_plain] at hx155_0 | simp only [add_at] at hx155_0 | simp only [Addr.add, Nat.zero_add] at hx155_0 | skip)
                  replace p155 := eq_true p155
                  replace q155 := eq_true q155
                  have p21 : 0 ≤ (x5_1 : Int) := of_decide_eq_true (by first | (with_reducible assumption) | assumption)
                  have q21 : (x5_1 : Int) < ((x3_2.length : Int) : Int) := of_decide_eq_true (by first | (with_reducible assumption) | assumption)
                  obtain ⟨hx21_0, hf21_0⟩ := Kd.R_celln 0 HO_3.out (x5_1 : Int) p21 q21
                  replace p21 := eq_true p21
                  replace q21 := eq_true q21
                  have HP25 := Kd.R_putn HO_3.out (x5_1 : Int) ji20
                  rw [← Ny156.out] at HP25
                  have HQ25 := Aside0.mk HP25
                  clear HP25
                  refine start_ (n := 14) (S := fun w' => w'.cell? ⟨go9, (x5_1).toNat, none⟩ = some (.int .i64 (rd x3_2 x5_1)) ∧ w'.cell? ⟨go9, (x6_2).toNat, none⟩ = some (.int .i64 (rd x3_2 x6_2))) (ds := [13]) #[false, false, false, false, false, false, false, false, false, false, false, false, false, false] (by kernel_rfl) rfl rfl ⟨hx154_0, hx155_0⟩ (fun hHeld => ?_); refine with_tabW redlineref07_Longest.tab11 redlineref07_Longest.bits11 (fun HT_ HW_ => ?_)
                  generalize w23.drew = w24 at HO_3 HB HQ25 hf21_0 hx154_0 hx155_0 hx21_0 hHeld ⊢
                  refine pw_ 0 39 (ar 14 1) HT_.out ?_
                  refine pw_ 1 40 (ar 14 2) HT_.out ?_
                  refine pw_ 2 41 (ar 14 3) HT_.out ?_
                  refine pw_ 3 42 (ar 14 4) HT_.out ?_
                  refine pw_ 4 43 (ar 14 5) HT_.out ?_
                  refine pw_ 6 45 #[true, true, true, true, true, false, true, false, false, false, false, false, false, false] HT_.out ?_
                  refine pw_ 7 46 #[true, true, true, true, true, false, true, true, false, false, false, false, false, false] HT_.out ?_
                  refine pw_ 8 47 #[true, true, true, true, true, false, true, true, true, false, false, false, false, false] HT_.out ?_
                  refine take_ (i := 5) (N := some 44) (v := ?_) (a' := ?_) (ar 14 9) rfl rfl (take_ofW HT_.out HW_.out (by kernel_rfl)) (fun _ _ _ h => h) (Or.inl ⟨by rfl, ?_⟩) hHeld ?_ ?_
                  rotate_left
                  ·rintro w' ⟨s0, s1⟩
                   go_simp
                   with_reducible rfl
                  rotate_left
                  ·simp only [Act.put, List.setIfInBounds_toArray, List.set_cons_zero, List.set_cons_succ, i64_w, i32_w]
                   rfl
                  refine take_ (i := 9) (N := some 48) (v := ?_) (a' := ?_) (ar 14 10) rfl rfl (take_ofW HT_.out HW_.out (by kernel_rfl)) (fun _ _ _ h => h) (Or.inl ⟨by rfl, ?_⟩) hHeld ?_ ?_
                  rotate_left
                  ·rintro w' ⟨s0, s1⟩
                   go_simp
                   with_reducible rfl
                  rotate_left
                  ·simp only [Act.put, List.setIfInBounds_toArray, List.set_cons_zero, List.set_cons_succ, i64_w, i32_w]
                   rfl
                  refine pw_ 10 49 (ar 14 11) HT_.out ?_
                  refine pw_ 11 50 (ar 14 12) HT_.out ?_
                  refine pw_ 12 51 (ar 14 13) HT_.out ?_
                  refine last_ (i := 13) (N := none) (ar 14 14) rfl rfl (one_of HT_.out (by kernel_rfl)) (by decide) (fun K hK => ?_)
                  refine skip_ (w1 := ?_) (by rfl) rfl ?_ ?_
                  rotate_left
                  ·go_simp
                   rfl
                  refine hK.out _ _ ?_
                  clear hK K
                  refine done_ (done_of HT_.out (by kernel_rfl)) ?_
                  try go_wp2
                  (try simp only [← hl3_2])
                  go_roundg k2
                  case measure => have := HK1.out; have := HK2.out; omega
                  case rel => exact ⟨(y156), (wrap64 (x6_2 + 1)), (by first | rfl | (simp; done) | (simp [*]; done)), H', ⟨by have := HK1.out; have := HK2.out; omega⟩, ⟨by (try simp only [hl3_2]); (with_reducible repeat (first | apply Kd.R_alloc | apply Kd.R_drewN | apply Kd.R_drew)); exact HQ25.out⟩, ⟨by repeat (first | (with_reducible first | exact HB.out | apply below_alloc | apply pw_below_drewN | apply below_drew1 | refine below_set ?_ GB9.out) | exact HB.out)⟩⟩
                 ·rw [if_neg c19] at H
                  exact absurd H (by simp)
                ·rw [if_neg c18] at H
                 exact absurd H (by simp)
               ·replace c17 := Bool.eq_false_iff.mpr c17
                subst c17
                have H1 : (redlineref07_Longest.l1 k2 l0 x3_2 x4_1 x5_1 (wrap64 (x6_2 + 1))) = some r := by rw [if_neg (show ¬ (false = true) by decide)] at H; exact H
                clear H
                have H := H1
                clear H1
                have H' := Aside0.mk H
                clear H
                try go_wp2
                have n0_ := Aside0.mk (Kd.R_drew HO_3.out)
                have n1_ := Aside0.mk (below_drew1 HB.out)
                clear HO_3
                clear HB
                have HO_3 := n0_
                have HB := n1_
                clear n0_ n1_
                have p151 : 0 ≤ (x5_1 : Int) := of_decide_eq_true (by first | (with_reducible assumption) | assumption)
                have q151 : x5_1 < (l0.length : Int) := of_decide_eq_true (by first | (with_reducible assumption) | assumption)
                obtain ⟨ad151, e151, hx151_0, hx151_1⟩ := at_T26 HR0.out x5_1 p151 q151
                have hw151_1 := hx151_1
                have hw151_0 := hx151_0
                cases e151
                replace hx151_0 := (HB.out.cell (World.block_lt_of_cell? w _ hx151_0)).trans hx151_0
                replace hx151_1 := (HB.out.cell (World.block_lt_of_cell? w _ hx151_1)).trans hx151_1
                replace p151 := eq_true p151
                replace q151 := eq_true q151
                have p152 : 0 ≤ (x6_2 : Int) := of_decide_eq_true (by first | (with_reducible assumption) | assumption)
                have q152 : x6_2 < (l0.length : Int) := of_decide_eq_true (by first | (with_reducible assumption) | assumption)
                obtain ⟨ad152, e152, hx152_0, hx152_1⟩ := at_T26 HR0.out x6_2 p152 q152
                have hw152_1 := hx152_1
                have hw152_0 := hx152_0
                obtain rfl : ad151 = ad152 := (by injection e152)
                replace hx152_0 := (HB.out.cell (World.block_lt_of_cell? w _ hx152_0)).trans hx152_0
                replace hx152_1 := (HB.out.cell (World.block_lt_of_cell? w _ hx152_1)).trans hx152_1
                replace p152 := eq_true p152
                replace q152 := eq_true q152
                refine start_ (n := 9) (S := fun w' => w'.cell? (ad151.add ((x5_1).toNat * 2)) = some (.int .i64 ((rd_T26 l0 x5_1).f0)) ∧ w'.cell? ⟨(ad151.add ((x5_1).toNat * 2)).block, (ad151.add ((x5_1).toNat * 2)).off + 1, none⟩ = some (.int .i64 ((rd_T26 l0 x5_1).f1)) ∧ w'.cell? (ad151.add ((x6_2).toNat * 2)) = some (.int .i64 ((rd_T26 l0 x6_2).f0)) ∧ w'.cell? ⟨(ad151.add ((x6_2).toNat * 2)).block, (ad151.add ((x6_2).toNat * 2)).off + 1, none⟩ = some (.int .i64 ((rd_T26 l0 x6_2).f1))) (ds := []) #[false, false, false, false, false, false, false, false, false] (by kernel_rfl) rfl rfl ⟨((HB.out.cell (World.block_lt_of_cell? w _ hw151_0)).trans hw151_0), ((HB.out.cell (World.block_lt_of_cell? w _ hw151_1)).trans hw151_1), ((HB.out.cell (World.block_lt_of_cell? w _ hw152_0)).trans hw152_0), ((HB.out.cell (World.block_lt_of_cell? w _ hw152_1)).trans hw152_1)⟩ (fun hHeld => ?_); refine with_tabW redlineref07_Longest.tab10 redlineref07_Longest.bits10 (fun HT_ HW_ => ?_)
                generalize wr.drew = w26 at HO_3 HB hx151_0 hx151_1 hx152_0 hx152_1 hHeld ⊢
                refine pw_ 0 30 (ar 9 1) HT_.out ?_
                refine pw_ 1 31 (ar 9 2) HT_.out ?_
                refine pw_ 2 32 (ar 9 3) HT_.out ?_
                refine pw_ 4 34 #[true, true, true, false, true, false, false, false, false] HT_.out ?_
                refine pw_ 5 35 #[true, true, true, false, true, true, false, false, false] HT_.out ?_
                refine pw_ 6 36 #[true, true, true, false, true, true, true, false, false] HT_.out ?_
                refine take_ (i := 3) (N := some 33) (v := ?_) (a' := ?_) (ar 9 7) rfl rfl (take_ofW HT_.out HW_.out (by kernel_rfl)) (fun _ _ _ h => h) (Or.inl ⟨by rfl, ?_⟩) hHeld ?_ ?_
                rotate_left
                ·rintro w' ⟨s0, s1, s2, s3⟩
                 go_simp
                 with_reducible rfl
                rotate_left
                ·simp only [Act.put, List.setIfInBounds_toArray, List.set_cons_zero, List.set_cons_succ, i64_w, i32_w]
                 rfl
                refine take_ (i := 7) (N := some 37) (v := ?_) (a' := ?_) (ar 9 8) rfl rfl (take_ofW HT_.out HW_.out (by kernel_rfl)) (fun _ _ _ h => h) (Or.inl ⟨by rfl, ?_⟩) hHeld ?_ ?_
                rotate_left
                ·rintro w' ⟨s0, s1, s2, s3⟩
                 go_simp
                 with_reducible rfl
                rotate_left
                ·simp only [Act.put, List.setIfInBounds_toArray, List.set_cons_zero, List.set_cons_succ, i64_w, i32_w]
                 rfl
                refine one_ (i := 8) (N := some 38) (ar 9 9) rfl rfl (one_of HT_.out (by kernel_rfl)) (by decide) (fun K hK => ?_)
                refine goes_ Try.func23 (by kernel_rfl) rfl #[.agg #[.int .i64 ((rd_T26 l0 x5_1).f0), .int .i64 ((rd_T26 l0 x5_1).f1)], .agg #[.int .i64 ((rd_T26 l0 x6_2).f0), .int .i64 ((rd_T26 l0 x6_2).f1)]] (by rfl) rfl rfl (by (try simp only [List.map_toArray, List.map_cons, List.map_nil]); first | done | rfl | (simp only [List.length_drop, List.length_take]; rfl)) ?_
                with_reducible refine (redlineref07_rises.calls ((rd_T26 l0 x5_1).f0) ((rd_T26 l0 x5_1).f1) ((rd_T26 l0 x6_2).f0) ((rd_T26 l0 x6_2).f1) false _ A16.out).mono ?_
                rintro e w27 ⟨rfl, hb⟩
                refine ⟨_, rfl, ?_⟩
                have n0_ := Aside0.mk (Kd.R_below (by (with_reducible repeat (first | apply Kd.R_alloc | apply Kd.R_drewN | apply Kd.R_drew)); exact HO_3.out) hb)
                have n1_ := Aside0.mk (below_step (by repeat (first | (with_reducible first | exact HB.out | apply below_alloc | apply pw_below_drewN | apply below_drew1) | exact HB.out)) hb)
                clear HO_3
                clear HB
                have HO_3 := n0_
                have HB := n1_
                clear n0_ n1_
                (try clear hb)
                (try clear hb2)
                (try clear hk)
                (try clear hi)
                refine hK.out _ _ ⟨((HB.out.cell (World.block_lt_of_cell? w _ hw151_0)).trans hw151_0), ((HB.out.cell (World.block_lt_of_cell? w _ hw151_1)).trans hw151_1), ((HB.out.cell (World.block_lt_of_cell? w _ hw152_0)).trans hw152_0), ((HB.out.cell (World.block_lt_of_cell? w _ hw152_1)).trans hw152_1)⟩ (fun hHeld => ?_)
                clear hK K
                refine norm_ (a' := ?_) ?_ ?_
                rotate_left
                ·show Act.put _ (some 38) _ = _
                 simp only [Act.put, List.setIfInBounds_toArray, List.set_cons_zero, List.set_cons_succ, i64_w, i32_w]
                 rfl
                refine done_ (done_of HT_.out (by kernel_rfl)) ?_
                try go_wp2
                (try simp only [← hl3_2])
                go_roundg k2
                case measure => have := HK1.out; have := HK2.out; omega
                case rel => exact ⟨(x3_2), (wrap64 (x6_2 + 1)), (by first | rfl | (simp; done) | (simp [*]; done)), H', ⟨by have := HK1.out; have := HK2.out; omega⟩, ⟨by (try simp only [hl3_2]); (with_reducible repeat (first | apply Kd.R_alloc | apply Kd.R_drewN | apply Kd.R_drew)); exact HO_3.out⟩, ⟨by repeat (first | (with_reducible first | exact HB.out | apply below_alloc | apply pw_below_drewN | apply below_drew1) | exact HB.out)⟩⟩
              ·rw [if_neg c15] at H
               exact absurd H (by simp)
             ·rw [if_neg c14] at H
              exact absurd H (by simp)
            ·rw [if_neg c13] at H
             exact absurd H (by simp)
           ·rw [if_neg c12] at H
            have c12b0 : decide (x6_2 < (l0.length : Int)) = false := decide_eq_false c12
            clear c12
            by_cases c28 : 0 ≤ x5_1
            ·rw [if_pos c28] at H
             have c28b0 : decide (0 ≤ x5_1) = true := decide_eq_true c28
             clear c28
             by_cases c29 : x5_1 < (x3_2.length : Int)
             ·rw [if_pos c29] at H
              have c29b0 : decide (x5_1 < (x3_2.length : Int)) = true := decide_eq_true c29
              clear c29
              obtain ⟨ji30, hji30⟩ : ∃ j_ : Int, (mx x4_1 (rd x3_2 x5_1)) = j_ := ⟨_, rfl⟩
              replace H : (redlineref07_Longest.l0 k2 l0 x3_2 ji30 (wrap64 (x5_1 - 1))) = some r := by first | (rw [hji30] at H; exact H) | (simp only [hji30] at H ⊢; exact H)
              have hji30_ : (if x4_1 < (rd x3_2 x5_1) then (rd x3_2 x5_1) else x4_1) = ji30 := hji30
              have H' := Aside0.mk H
              clear H
              have p157 : 0 ≤ (x5_1 : Int) := of_decide_eq_true (by first | (with_reducible assumption) | assumption)
              have q157 : x5_1 < (x3_2.length : Int) := of_decide_eq_true (by first | (with_reducible assumption) | assumption)
              obtain ⟨ad157, e157, hx157_0⟩ := Kd.at_int (Kd.R_reads' HO_3.out).2.2 x5_1 p157 q157
              obtain rfl : (⟨go9, 0, none⟩ : Addr) = ad157 := (by injection e157)
              (first | simp only [add_plain] at hx157_0 | simp only [add_at] at hx157_0 | simp only [Addr.add, Nat.zero_add] at hx157_0 | skip)
              replace p157 := eq_true p157
              replace q157 := eq_true q157
              go_wp2
              (try simp only [← hl3_2])
              go_roundg k2
              case measure => have := HK1.out; have := HK2.out; omega
              case rel => exact ⟨(x3_2), (ji30), (wrap64 (x5_1 - 1)), (by first | rfl | (simp; done) | (simp only [← hji30] <;> (first | rfl | simp)) | (simp [*]; done)), (by first | rfl | (simp; done) | (simp [*]; done)), H', ⟨by have := HK1.out; have := HK2.out; omega⟩, ⟨by (try simp only [hl3_2]); (with_reducible repeat (first | apply Kd.R_alloc | apply Kd.R_drewN | apply Kd.R_drew)); exact HO_3.out⟩, ⟨by repeat (first | (with_reducible first | exact HB.out | apply below_alloc | apply pw_below_drewN | apply below_drew1) | exact HB.out)⟩⟩
             ·rw [if_neg c29] at H
              exact absurd H (by simp)
            ·rw [if_neg c28] at H
             exact absurd H (by simp)
        ·rw [if_neg c8] at H
         exact absurd H (by simp)
       ·rw [if_neg c7] at H
        exact absurd H (by simp)
      ·rw [if_neg c6] at H
       have c6b0 : decide (0 ≤ x5_1) = false := decide_eq_false c6
       clear c6
       have H' := Aside0.mk H
       clear H
       go_wp2
       go_loopg [4, 7, 8] k1 (fun kq v4 v7 v8 w' => ∃ (x4_2 : Int) (x7_2 : List (S26)) (x8_2 : Int), v4 = .int .i64 x4_2 ∧ v8 = .int .i64 x8_2 ∧ Aside0 (redlineref07_Longest.l2 kq l0 x3_1 x4_2 x7_2 x8_2 = some r) ∧ Aside0 (kq ≤ k1) ∧ Aside0 (Kd.R (Kd.int .i64) 3 w' w.heap.size (fun _ => True) v148 x3_1) ∧ Aside0 (Kd.R k26 26 w' w.heap.size (fun _ => True) v7 x7_2) ∧ Aside0 (Below w.heap.size w w'))
       case atStart => exact ⟨(x4_1), (([] : List (S26))), (0), (by first | rfl | (simp; done) | (simp [*]; done)), (by first | rfl | (simp; done) | (simp [*]; done)), H', ⟨Nat.le_refl _⟩, ⟨by (with_reducible repeat (first | apply Kd.R_alloc | apply Kd.R_drewN | apply Kd.R_drew)); exact HO_3.out⟩, ⟨by first | exact Kd.R_nil _ _ _ _ _ | exact Kd.N_nil _ _ _ _ _ | exact Kd.V_nil _ _ _ _ _ | exact Kd.Q_nil _ _ _ _ _ | exact Kd.S_nil _ _ _ _ _⟩, ⟨by repeat (first | (with_reducible first | exact HB.out | apply below_alloc | apply pw_below_drewN | apply below_drew1) | exact HB.out)⟩⟩
       case round =>
        clear H'
        try clear c1
        try clear p1
        try clear q1
        try clear hx1
        try clear c2
        try clear c2b0
        try clear c2b1
        try clear p2
        try clear q2
        try clear hx2
        try clear hf2
        try clear c3
        try clear c3b0
        try clear c3b1
        try clear c6
        try clear c6b0
        try clear p6
        try clear c7
        try clear c7b0
        try clear c8
        try clear c8b0
        try clear p9
        try clear q9
        try clear hx9
        try clear hf9
        try clear c11
        try clear c12
        try clear c12b0
        try clear c13
        try clear c13b0
        try clear c14
        try clear c14b0
        try clear c15
        try clear c15b0
        try clear p15
        try clear q15
        try clear hx15
        try clear c17
        try clear c18
        try clear c18b0
        try clear c19
        try clear c19b0
        try clear p21
        try clear q21
        try clear hx21
        try clear hf21
        try clear c23
        try clear c28
        try clear c28b0
        try clear c29
        try clear c29b0
        try clear hx151_0
        try clear hx151_1
        try clear hx152_0
        try clear hx152_1
        try clear hx154_0
        try clear hx155_0
        try clear hx157_0
        try clear hx21_0
        try clear hx9_0
        try clear p151
        try clear p152
        try clear p154
        try clear p155
        try clear p157
        try clear p2
        try clear p21
        try clear p6
        try clear p9
        try clear q151
        try clear q152
        try clear q154
        try clear q155
        try clear q157
        try clear q21
        try clear q9
        obtain ⟨x4_2, x7_2, x8_2, rfl, rfl, HA, HK2, HO_3, HO_7, HB⟩ := hrel
        cases gk with
        | zero => exact absurd HA.out (by simp [redlineref07_Longest.l2])
        | succ k2 =>
         have H := HA.out
         clear HA
         simp only [redlineref07_Longest.l2] at H
         have HC31 := Aside0.mk H
         clear H
         go_upto_region 15 with (fail)
         go_cut [65] (fun v65 wc => ∃ (kq : Nat) (x65_30 : Bool), v65 = .bool x65_30 ∧ Aside0 (redlineref07_Longest.j3 kq l0 x3_1 x4_2 x7_2 x8_2 x65_30 = some r) ∧ Aside0 (kq ≤ k2) ∧ Aside0 (Kd.R (Kd.int .i64) 3 wc w.heap.size (fun _ => True) v148 x3_1) ∧ Aside0 (Kd.R k26 26 wc w.heap.size (fun _ => True) u7 x7_2) ∧ Aside0 (Below w.heap.size w wc))
         case first =>
          have H := HC31.out
          clear HC31
          by_cases c32 : x8_2 < (l0.length : Int)
          ·rw [if_pos c32] at H
           have c32b0 : decide (x8_2 < (l0.length : Int)) = true := decide_eq_true c32
           clear c32
           (first | rw [c32b0] | rw [c32b1] | (simp only [i64_w, i32_w]; rw [c32b0]) | skip)
           have H' := Aside0.mk H
           clear H
           go_wp2
           go_meet
           case rel => exact ⟨_, (decide (x4_2 > 0)), (by first | rfl | (simp; done) | (simp [*]; done)), H', ⟨by have := HK1.out; have := HK2.out; first | omega | exact Nat.le_refl _⟩, ⟨by (with_reducible repeat (first | apply Kd.R_alloc | apply Kd.R_drewN | apply Kd.R_drew)); exact HO_3.out⟩, ⟨by (with_reducible repeat (first | apply Kd.R_alloc | apply Kd.R_drewN | apply Kd.R_drew)); exact HO_7.out⟩, ⟨by repeat (first | (with_reducible first | exact HB.out | apply below_alloc | apply pw_below_drewN | apply below_drew1) | exact HB.out)⟩⟩
          ·rw [if_neg c32] at H
           have c32b0 : decide (x8_2 < (l0.length : Int)) = false := decide_eq_false c32
           clear c32
           (first | rw [c32b0] | rw [c32b1] | (simp only [i64_w, i32_w]; rw [c32b0]) | skip)
           have H' := Aside0.mk H
           clear H
           go_wp2
           go_meet
           case rel => exact ⟨_, (false), (by first | rfl | (simp; done) | (simp [*]; done)), H', ⟨by have := HK1.out; have := HK2.out; first | omega | exact Nat.le_refl _⟩, ⟨by (with_reducible repeat (first | apply Kd.R_alloc | apply Kd.R_drewN | apply Kd.R_drew)); exact HO_3.out⟩, ⟨by (with_reducible repeat (first | apply Kd.R_alloc | apply Kd.R_drewN | apply Kd.R_drew)); exact HO_7.out⟩, ⟨by repeat (first | (with_reducible first | exact HB.out | apply below_alloc | apply pw_below_drewN | apply below_drew1) | exact HB.out)⟩⟩
         case rest =>
          clear HC31
          try clear c1
          try clear p1
          try clear q1
          try clear hx1
          try clear c2
          try clear c2b0
          try clear c2b1
          try clear p2
          try clear q2
          try clear hx2
          try clear hf2
          try clear c3
          try clear c3b0
          try clear c3b1
          try clear c6
          try clear c6b0
          try clear p6
          try clear c7
          try clear c7b0
          try clear c8
          try clear c8b0
          try clear p9
          try clear q9
          try clear hx9
          try clear hf9
          try clear c11
          try clear c12
          try clear c12b0
          try clear c13
          try clear c13b0
          try clear c14
          try clear c14b0
          try clear c15
          try clear c15b0
          try clear p15
          try clear q15
          try clear hx15
          try clear c17
          try clear c18
          try clear c18b0
          try clear c19
          try clear c19b0
          try clear p21
          try clear q21
          try clear hx21
          try clear hf21
          try clear c23
          try clear c28
          try clear c28b0
          try clear c29
          try clear c29b0
          try clear c32
          try clear c32b0
          try clear c32b1
          try clear hx151_0
          try clear hx151_1
          try clear hx152_0
          try clear hx152_1
          try clear hx154_0
          try clear hx155_0
          try clear hx157_0
          try clear hx21_0
          try clear hx9_0
          try clear p1
          try clear p15
          try clear p151
          try clear p152
          try clear p154
          try clear p155
          try clear p157
          try clear p2
          try clear p21
          try clear p6
          try clear p9
          try clear q1
          try clear q15
          try clear q151
          try clear q152
          try clear q154
          try clear q155
          try clear q157
          try clear q2
          try clear q21
          try clear q9
          obtain ⟨kq, x65_30, rfl, HA, HJ30, HO_3, HO_7, HB⟩ := hcut
          cases kq with
          | zero => exact absurd HA.out (by simp [redlineref07_Longest.j3])
          | succ kj30 =>
           have H := HA.out
           clear HA
           simp only [redlineref07_Longest.j3] at H
           by_cases c33 : x65_30 = true
           ·subst c33
            have H1 : (if 0 ≤ x8_2 then (if x8_2 < (x3_1.length : Int) then (if (rd x3_1 x8_2) = x4_2 then (if (x7_2.length : Int) = 0 then (if x8_2 < (l0.length : Int) then (if x7_2.length < 8796093022208 then (redlineref07_Longest.l2 kj30 l0 x3_1 (wrap64 (x4_2 - 1)) (x7_2 ++ [(⟨(rd_T26 l0 x8_2).f0, (rd_T26 l0 x8_2).f1⟩ : S26)]) (wrap64 (x8_2 + 1))) else (none)) else (none)) else (if 0 ≤ (wrap64 ((x7_2.length : Int) - 1)) then (if (wrap64 ((x7_2.length : Int) - 1)) < (x7_2.length : Int) then (if x8_2 < (l0.length : Int) then ((redlineref07_rises.f ((rd_T26 x7_2 (wrap64 ((x7_2.length : Int) - 1))).f0) ((rd_T26 x7_2 (wrap64 ((x7_2.length : Int) - 1))).f1) ((rd_T26 l0 x8_2).f0) ((rd_T26 l0 x8_2).f1)).bind fun t165 => (if t165 = true then (if x7_2.length < 8796093022208 then (redlineref07_Longest.l2 kj30 l0 x3_1 (wrap64 (x4_2 - 1)) (x7_2 ++ [(⟨(rd_T26 l0 x8_2).f0, (rd_T26 l0 x8_2).f1⟩ : S26)]) (wrap64 (x8_2 + 1))) else (none)) else (redlineref07_Longest.l2 kj30 l0 x3_1 x4_2 x7_2 (wrap64 (x8_2 + 1))))) else (none)) else (none)) else (none))) else (redlineref07_Longest.l2 kj30 l0 x3_1 x4_2 x7_2 (wrap64 (x8_2 + 1)))) else (none)) else (none)) = some r := by rw [if_pos rfl] at H; exact H
            clear H
            have H := H1
            clear H1
            by_cases c34 : 0 ≤ x8_2
            ·rw [if_pos c34] at H
             have c34b0 : decide (0 ≤ x8_2) = true := decide_eq_true c34
             clear c34
             by_cases c35 : x8_2 < (x3_1.length : Int)
             ·rw [if_pos c35] at H
              have c35b0 : decide (x8_2 < (x3_1.length : Int)) = true := decide_eq_true c35
              clear c35
              by_cases c36 : (rd x3_1 x8_2) = x4_2
              ·rw [if_pos c36] at H
               have c36b0 : ((rd x3_1 x8_2) == x4_2) = true := beq_iff_eq.mpr c36
               have c36b1 : ((rd x3_1 x8_2) != x4_2) = false := bne_eq_false_iff_eq.mpr c36
               clear c36
               by_cases c37 : (x7_2.length : Int) = 0
               ·rw [if_pos c37] at H
                have c37b0 : ((x7_2.length : Int) == 0) = true := beq_iff_eq.mpr c37
                have c37b1 : ((x7_2.length : Int) != 0) = false := bne_eq_false_iff_eq.mpr c37
                clear c37
                by_cases c38 : x8_2 < (l0.length : Int)
                ·rw [if_pos c38] at H
                 have c38b0 : decide (x8_2 < (l0.length : Int)) = true := decide_eq_true c38
                 clear c38
                 by_cases c39 : x7_2.length < 8796093022208
                 ·rw [if_pos c39] at H
                  have LMc39 := Aside0.mk c39
                  clear c39
                  obtain ⟨y160, hy160⟩ : ∃ y_ : List (S26), y_ = (x7_2 ++ [(⟨(rd_T26 l0 x8_2).f0, (rd_T26 l0 x8_2).f1⟩ : S26)]) := ⟨_, rfl⟩
                  replace H : (redlineref07_Longest.l2 kj30 l0 x3_1 (wrap64 (x4_2 - 1)) y160 (wrap64 (x8_2 + 1))) = some r := by first | (rw [hy160]; with_reducible exact H) | (have H2_ := (Option.bind_some _ _).symm.trans H; rw [hy160]; with_reducible exact H2_) | (have H2_ := (Option.bind_some _ _).symm.trans H; with_reducible exact H2_) | with_reducible exact H | (rw [hy160]; exact H) | exact H
                  have Ny160 := Aside0.mk hy160
                  clear hy160
                  have H' := Aside0.mk H
                  clear H
                  try go_wp2
                  have n0_ := Aside0.mk (Kd.R_drew HO_3.out)
                  have n1_ := Aside0.mk (Kd.R_drew HO_7.out)
                  have n2_ := Aside0.mk (below_drew1 HB.out)
                  clear HO_3
                  clear HO_7
                  clear HB
                  have HO_3 := n0_
                  have HO_7 := n1_
                  have HB := n2_
                  clear n0_ n1_ n2_
                  obtain ⟨Ao41, co41, eo41⟩ := Kd.R_slice HO_3.out
                  (first | subst eo41 | (injection eo41 with f1_ f2_ f3_; have f4_ := f1_.symm; have f5_ := f3_.symm; clear f1_ f2_ f3_; subst f4_; subst f5_))
                  have p158 : 0 ≤ (x8_2 : Int) := of_decide_eq_true (by first | (with_reducible assumption) | assumption)
                  have q158 : x8_2 < (x3_1.length : Int) := of_decide_eq_true (by first | (with_reducible assumption) | assumption)
                  obtain ⟨ad158, e158, hx158_0⟩ := Kd.at_int (Kd.R_reads' HO_3.out).2.2 x8_2 p158 q158
                  cases e158
                  replace p158 := eq_true p158
                  replace q158 := eq_true q158
                  obtain ⟨Ao42, co42, eo42⟩ := Kd.R_slice HO_7.out
                  (first | subst eo42 | (injection eo42 with f1_ f2_ f3_; have f4_ := f1_.symm; have f5_ := f3_.symm; clear f1_ f2_ f3_; subst f4_; subst f5_))
                  refine start_ (n := 24) (S := fun w' => w'.cell? (ad158.add (x8_2).toNat) = some (.int .i64 (rd x3_1 x8_2))) (ds := []) #[false, false, false, false, false, false, false, false, false, false, false, false, false, false, false, false, false, false, false, false, false, false, false, false] (by kernel_rfl) rfl rfl (hx158_0) (fun hHeld => ?_); refine with_tabW redlineref07_Longest.tab17 redlineref07_Longest.bits17 (fun HT_ HW_ => ?_)
                  generalize wc.drew = w40 at HO_3 HO_7 HB hx158_0 hHeld ⊢
                  refine pw_ 0 68 redlineref07_Longest.aa_0 HT_.out ?_
                  refine pw_ 1 69 redlineref07_Longest.aa_1 HT_.out ?_
                  refine pw_ 2 70 redlineref07_Longest.aa_2 HT_.out ?_
                  refine pw_ 4 72 redlineref07_Longest.aa_3 HT_.out ?_
                  refine take_ (i := 3) (N := some 71) (v := ?_) (a' := ?_) redlineref07_Longest.aa_4 rfl rfl (take_ofW HT_.out HW_.out (by kernel_rfl)) (fun _ _ _ h => h) (Or.inl ⟨by rfl, ?_⟩) hHeld ?_ ?_
                  rotate_left
                  ·intro w' s0
                   go_simp
                   with_reducible rfl
                  rotate_left
                  ·simp only [Act.put, List.setIfInBounds_toArray, List.set_cons_zero, List.set_cons_succ, i64_w, i32_w]
                   rfl
                  refine pw_ 5 73 redlineref07_Longest.aa_5 HT_.out ?_
                  refine pw_ 6 74 redlineref07_Longest.aa_6 HT_.out ?_
                  refine pw_ 7 75 redlineref07_Longest.aa_7 HT_.out ?_
                  refine pw_ 8 76 redlineref07_Longest.aa_8 HT_.out ?_
                  refine pw_ 9 77 redlineref07_Longest.aa_9 HT_.out ?_
                  refine pw_ 10 78 redlineref07_Longest.aa_10 HT_.out ?_
                  refine pu_ 11 79 redlineref07_Longest.aa_11 HT_.out ?_
                  refine pu_ 12 80 redlineref07_Longest.aa_12 HT_.out ?_
                  refine pu_ 13 81 redlineref07_Longest.aa_13 HT_.out ?_
                  refine pu_ 14 82 redlineref07_Longest.aa_14 HT_.out ?_
                  refine pu_ 15 83 redlineref07_Longest.aa_15 HT_.out ?_
                  refine pu_ 16 84 redlineref07_Longest.aa_16 HT_.out ?_
                  refine pu_ 17 85 redlineref07_Longest.aa_17 HT_.out ?_
                  refine pu_ 18 86 redlineref07_Longest.aa_18 HT_.out ?_
                  refine pu_ 19 87 redlineref07_Longest.aa_19 HT_.out ?_
                  refine pu_ 20 88 redlineref07_Longest.aa_20 HT_.out ?_
                  refine pu_ 21 89 redlineref07_Longest.aa_21 HT_.out ?_
                  refine pw_ 22 90 redlineref07_Longest.aa_22 HT_.out ?_
                  refine pw_ 23 91 redlineref07_Longest.aa_23 HT_.out ?_
                  refine done_ (done_of HT_.out (by kernel_rfl)) ?_
                  have p159 : 0 ≤ (x8_2 : Int) := of_decide_eq_true (by first | (with_reducible assumption) | assumption)
                  have q159 : x8_2 < (l0.length : Int) := of_decide_eq_true (by first | (with_reducible assumption) | assumption)
                  obtain ⟨ad159, e159, hx159_0, hx159_1⟩ := at_T26 HR0.out x8_2 p159 q159
                  cases e159
                  replace hx159_0 := (HB.out.cell (World.block_lt_of_cell? w _ hx159_0)).trans hx159_0
                  replace hx159_1 := (HB.out.cell (World.block_lt_of_cell? w _ hx159_1)).trans hx159_1
                  replace p159 := eq_true p159
                  replace q159 := eq_true q159
                  try go_wp2_with (first | ((with_reducible refine gate_builtin (b := .append) (xs := #[.tmp 92, .tmp 97]) rfl ?_); (try (refine gate_guard (by rfl) ?_; dsimp only)); at_builtin; refine Kd.R_append k26 (w0 := w) w.heap.size rfl (.tmp 92) (.tmp 97) 23 26 (.agg #[(.int .i64 0), (.int .i64 0)]) 16 rfl Try.underlying23 info26 rfl (by decide) (by omega) (.slice Ao42 x7_2.length co42) x7_2 (⟨(rd_T26 l0 x8_2).f0, (rd_T26 l0 x8_2).f1⟩ : S26) [.int .i64 ((rd_T26 l0 x8_2).f0), .int .i64 ((rd_T26 l0 x8_2).f1)] (fun _ => True) (fun _ => False) rfl rfl ?aP (fun _ hk => hk.elim) ?aF ?aO ?aB ?aS ?aL ?_; (case aP => exact k26_mkM _ _ _ (⟨(rd_T26 l0 x8_2).f0, (rd_T26 l0 x8_2).f1⟩ : S26)); (case aB => exact (by repeat (first | (with_reducible first | exact HB.out | apply below_alloc | apply pw_below_drewN | apply below_drew1) | exact HB.out))); (case aF => exact (fun _ _ => trivial)); (case aO => exact (by (with_reducible repeat (first | apply Kd.R_alloc | apply Kd.R_drewN | apply Kd.R_drew)); exact HO_7.out)); (case aS => exact (below_size (by repeat (first | (with_reducible first | exact HB.out | apply below_alloc | apply pw_below_drewN | apply below_drew1) | exact HB.out)))); (case aL => have := LMc39.out; omega); intro v161 w43 ho hb hg hat; rw [← Ny160.out] at ho; have n0_ := Aside0.mk (Kd.R_over' (by (with_reducible repeat (first | apply Kd.R_alloc | apply Kd.R_drewN | apply Kd.R_drew)); exact HO_3.out) (Kd.R_typed (by (with_reducible repeat (first | apply Kd.R_alloc | apply Kd.R_drewN | apply Kd.R_drew)); exact HO_7.out)) (by decide) hg); have n1_ := Aside0.mk (hb); have n2_ := Aside0.mk (ho); clear HO_3; clear HB; clear HO_7; have HO_3 := n0_; have HB := n1_; have HO162 := n2_; clear n0_ n1_ n2_; clear ho hb hg hat))
                  go_roundg kj30
                  case measure => have := HK1.out; have := HK2.out; have := HJ30.out; omega
                  case rel => exact ⟨(wrap64 (x4_2 - 1)), (y160), (wrap64 (x8_2 + 1)), (by first | rfl | (simp; done) | (simp [*]; done)), (by first | rfl | (simp; done) | (simp [*]; done)), H', ⟨by have := HK1.out; have := HK2.out; have := HJ30.out; omega⟩, ⟨by (with_reducible repeat (first | apply Kd.R_alloc | apply Kd.R_drewN | apply Kd.R_drew)); exact HO_3.out⟩, ⟨by (with_reducible repeat (first | apply Kd.R_alloc | apply Kd.R_drewN | apply Kd.R_drew)); exact HO162.out⟩, ⟨by repeat (first | (with_reducible first | exact HB.out | apply below_alloc | apply pw_below_drewN | apply below_drew1) | exact HB.out)⟩⟩
                 ·rw [if_neg c39] at H
                  exact absurd H (by simp)
                ·rw [if_neg c38] at H
                 exact absurd H (by simp)
               ·rw [if_neg c37] at H
                have c37b0 : ((x7_2.length : Int) == 0) = false := beq_eq_false_iff_ne.mpr c37
                have c37b1 : ((x7_2.length : Int) != 0) = true := bne_iff_ne.mpr c37
                have c37b2 : ¬ (x7_2 = []) := fun h_ => c37 (by rw [h_]; rfl)
                obtain ⟨ji44, hji44⟩ : ∃ j_ : Int, (wrap64 ((x7_2.length : Int) - 1)) = j_ := ⟨_, rfl⟩
                replace H : (if 0 ≤ (ji44) then (if (ji44) < (x7_2.length : Int) then (if x8_2 < (l0.length : Int) then ((redlineref07_rises.f ((rd_T26 x7_2 (ji44)).f0) ((rd_T26 x7_2 (ji44)).f1) ((rd_T26 l0 x8_2).f0) ((rd_T26 l0 x8_2).f1)).bind fun t165 => (if t165 = true then (if x7_2.length < 8796093022208 then (redlineref07_Longest.l2 kj30 l0 x3_1 (wrap64 (x4_2 - 1)) (x7_2 ++ [(⟨(rd_T26 l0 x8_2).f0, (rd_T26 l0 x8_2).f1⟩ : S26)]) (wrap64 (x8_2 + 1))) else (none)) else (redlineref07_Longest.l2 kj30 l0 x3_1 x4_2 x7_2 (wrap64 (x8_2 + 1))))) else (none)) else (none)) else (none)) = some r := by first | (rw [hji44] at H; exact H) | (simp only [hji44] at H ⊢; exact H)
                have hji44w : (IntKind.i64.wrap ((x7_2.length : Int) - 1)) = ji44 := (i64_w _).trans hji44
                by_cases c45 : 0 ≤ (ji44)
                ·rw [if_pos c45] at H
                 have c45b0 : decide (0 ≤ (ji44)) = true := decide_eq_true c45
                 clear c45
                 by_cases c46 : (ji44) < (x7_2.length : Int)
                 ·rw [if_pos c46] at H
                  have c46b0 : decide ((ji44) < (x7_2.length : Int)) = true := decide_eq_true c46
                  clear c46
                  by_cases c47 : x8_2 < (l0.length : Int)
                  ·rw [if_pos c47] at H
                   have c47b0 : decide (x8_2 < (l0.length : Int)) = true := decide_eq_true c47
                   clear c47
                   replace H := Option.bind_eq_some_iff.mp H
                   obtain ⟨t165, A480, H⟩ := H
                   replace H : (if t165 = true then (if x7_2.length < 8796093022208 then (redlineref07_Longest.l2 kj30 l0 x3_1 (wrap64 (x4_2 - 1)) (x7_2 ++ [(⟨(rd_T26 l0 x8_2).f0, (rd_T26 l0 x8_2).f1⟩ : S26)]) (wrap64 (x8_2 + 1))) else (none)) else (redlineref07_Longest.l2 kj30 l0 x3_1 x4_2 x7_2 (wrap64 (x8_2 + 1)))) = some r := H
                   have A48 := Aside0.mk A480
                   clear A480
                   by_cases c49 : t165 = true
                   ·subst c49
                    have H1 : (if x7_2.length < 8796093022208 then (redlineref07_Longest.l2 kj30 l0 x3_1 (wrap64 (x4_2 - 1)) (x7_2 ++ [(⟨(rd_T26 l0 x8_2).f0, (rd_T26 l0 x8_2).f1⟩ : S26)]) (wrap64 (x8_2 + 1))) else (none)) = some r := by rw [if_pos rfl] at H; exact H
                    clear H
                    have H := H1
                    clear H1
                    by_cases c50 : x7_2.length < 8796093022208
                    ·rw [if_pos c50] at H
                     have LMc50 := Aside0.mk c50
                     clear c50
                     obtain ⟨y167, hy167⟩ : ∃ y_ : List (S26), y_ = (x7_2 ++ [(⟨(rd_T26 l0 x8_2).f0, (rd_T26 l0 x8_2).f1⟩ : S26)]) := ⟨_, rfl⟩
                     replace H : (redlineref07_Longest.l2 kj30 l0 x3_1 (wrap64 (x4_2 - 1)) y167 (wrap64 (x8_2 + 1))) = some r := by first | (rw [hy167]; with_reducible exact H) | (have H2_ := (Option.bind_some _ _).symm.trans H; rw [hy167]; with_reducible exact H2_) | (have H2_ := (Option.bind_some _ _).symm.trans H; with_reducible exact H2_) | with_reducible exact H | (rw [hy167]; exact H) | exact H
                     have Ny167 := Aside0.mk hy167
                     clear hy167
                     have H' := Aside0.mk H
                     clear H
                     try go_wp2
                     have n0_ := Aside0.mk (Kd.R_drew HO_3.out)
                     have n1_ := Aside0.mk (Kd.R_drew HO_7.out)
                     have n2_ := Aside0.mk (below_drew1 HB.out)
                     clear HO_3
                     clear HO_7
                     clear HB
                     have HO_3 := n0_
                     have HO_7 := n1_
                     have HB := n2_
                     clear n0_ n1_ n2_
                     obtain ⟨Ao52, co52, eo52⟩ := Kd.R_slice HO_3.out
                     (first | subst eo52 | (injection eo52 with f1_ f2_ f3_; have f4_ := f1_.symm; have f5_ := f3_.symm; clear f1_ f2_ f3_; subst f4_; subst f5_))
                     have p158 : 0 ≤ (x8_2 : Int) := of_decide_eq_true (by first | (with_reducible assumption) | assumption)
                     have q158 : x8_2 < (x3_1.length : Int) := of_decide_eq_true (by first | (with_reducible assumption) | assumption)
                     obtain ⟨ad158, e158, hx158_0⟩ := Kd.at_int (Kd.R_reads' HO_3.out).2.2 x8_2 p158 q158
                     cases e158
                     replace p158 := eq_true p158
                     replace q158 := eq_true q158
                     obtain ⟨Ao53, co53, eo53⟩ := Kd.R_slice HO_7.out
                     (first | subst eo53 | (injection eo53 with f1_ f2_ f3_; have f4_ := f1_.symm; have f5_ := f3_.symm; clear f1_ f2_ f3_; subst f4_; subst f5_))
                     have p163 : 0 ≤ ((ji44) : Int) := of_decide_eq_true (by first | (with_reducible assumption) | assumption)
                     have q163 : (ji44) < (x7_2.length : Int) := of_decide_eq_true (by first | (with_reducible assumption) | assumption)
                     obtain ⟨ad163, e163, hx163_0, hx163_1⟩ := at_T26 (Kd.R_reads' HO_7.out).2.2 (ji44) p163 q163
                     cases e163
                     replace p163 := eq_true p163
                     replace q163 := eq_true q163
                     have p164 : 0 ≤ (x8_2 : Int) := of_decide_eq_true (by first | (with_reducible assumption) | assumption)
                     have q164 : x8_2 < (l0.length : Int) := of_decide_eq_true (by first | (with_reducible assumption) | assumption)
                     obtain ⟨ad164, e164, hx164_0, hx164_1⟩ := at_T26 HR0.out x8_2 p164 q164
                     have hw164_1 := hx164_1
                     have hw164_0 := hx164_0
                     cases e164
                     replace hx164_0 := (HB.out.cell (World.block_lt_of_cell? w _ hx164_0)).trans hx164_0
                     replace hx164_1 := (HB.out.cell (World.block_lt_of_cell? w _ hx164_1)).trans hx164_1
                     replace p164 := eq_true p164
                     replace q164 := eq_true q164
                     refine start_ (n := 24) (S := fun w' => w'.cell? (ad158.add (x8_2).toNat) = some (.int .i64 (rd x3_1 x8_2)) ∧ w'.cell? (ad163.add (((ji44)).toNat * 2)) = some (.int .i64 ((rd_T26 x7_2 (ji44)).f0)) ∧ w'.cell? ⟨(ad163.add (((ji44)).toNat * 2)).block, (ad163.add (((ji44)).toNat * 2)).off + 1, none⟩ = some (.int .i64 ((rd_T26 x7_2 (ji44)).f1)) ∧ w'.cell? (ad164.add ((x8_2).toNat * 2)) = some (.int .i64 ((rd_T26 l0 x8_2).f0)) ∧ w'.cell? ⟨(ad164.add ((x8_2).toNat * 2)).block, (ad164.add ((x8_2).toNat * 2)).off + 1, none⟩ = some (.int .i64 ((rd_T26 l0 x8_2).f1))) (ds := []) #[false, false, false, false, false, false, false, false, false, false, false, false, false, false, false, false, false, false, false, false, false, false, false, false] (by kernel_rfl) rfl rfl ⟨hx158_0, hx163_0, hx163_1, ((HB.out.cell (World.block_lt_of_cell? w _ hw164_0)).trans hw164_0), ((HB.out.cell (World.block_lt_of_cell? w _ hw164_1)).trans hw164_1)⟩ (fun hHeld => ?_); refine with_tabW redlineref07_Longest.tab17 redlineref07_Longest.bits17 (fun HT_ HW_ => ?_)
                     generalize wc.drew = w51 at HO_3 HO_7 HB hx158_0 hx163_0 hx163_1 hx164_0 hx164_1 hHeld ⊢
                     refine pw_ 0 68 redlineref07_Longest.aa_0 HT_.out ?_
                     refine pw_ 1 69 redlineref07_Longest.aa_1 HT_.out ?_
                     refine pw_ 2 70 redlineref07_Longest.aa_2 HT_.out ?_
                     refine pw_ 4 72 redlineref07_Longest.aa_3 HT_.out ?_
                     refine take_ (i := 3) (N := some 71) (v := ?_) (a' := ?_) redlineref07_Longest.aa_4 rfl rfl (take_ofW HT_.out HW_.out (by kernel_rfl)) (fun _ _ _ h => h) (Or.inl ⟨by rfl, ?_⟩) hHeld ?_ ?_
                     rotate_left
                     ·rintro w' ⟨s0, s1, s2, s3, s4⟩
                      go_simp
                      with_reducible rfl
                     rotate_left
                     ·simp only [Act.put, List.setIfInBounds_toArray, List.set_cons_zero, List.set_cons_succ, i64_w, i32_w]
                      rfl
                     refine pw_ 5 73 redlineref07_Longest.aa_5 HT_.out ?_
                     refine pw_ 6 74 redlineref07_Longest.aa_6 HT_.out ?_
                     refine pw_ 7 75 redlineref07_Longest.aa_7 HT_.out ?_
                     refine pw_ 8 76 redlineref07_Longest.aa_8 HT_.out ?_
                     refine pw_ 9 77 redlineref07_Longest.aa_9 HT_.out ?_
                     refine pw_ 10 78 redlineref07_Longest.aa_10 HT_.out ?_
                     refine pw_ 11 79 redlineref07_Longest.aa_11 HT_.out ?_
                     refine pw_ 12 80 redlineref07_Longest.aa_12 HT_.out ?_
                     refine pw_ 13 81 redlineref07_Longest.aa_13 HT_.out ?_
                     refine pw_ 14 82 redlineref07_Longest.aa_14 HT_.out ?_
                     refine pw_ 15 83 redlineref07_Longest.aa_15 HT_.out ?_
                     refine pw_ 17 85 redlineref07_Longest.aa_24 HT_.out ?_
                     refine pw_ 18 86 redlineref07_Longest.aa_25 HT_.out ?_
                     refine pw_ 19 87 redlineref07_Longest.aa_26 HT_.out ?_
                     refine take_ (i := 16) (N := some 84) (v := ?_) (a' := ?_) redlineref07_Longest.aa_19 rfl rfl (take_ofW HT_.out HW_.out (by kernel_rfl)) (fun _ _ _ h => h) (Or.inl ⟨by rfl, ?_⟩) hHeld ?_ ?_
                     rotate_left
                     ·rintro w' ⟨s0, s1, s2, s3, s4⟩
                      go_simp
                      with_reducible rfl
                     rotate_left
                     ·simp only [Act.put, List.setIfInBounds_toArray, List.set_cons_zero, List.set_cons_succ, i64_w, i32_w]
                      rfl
                     refine take_ (i := 20) (N := some 88) (v := ?_) (a' := ?_) redlineref07_Longest.aa_20 rfl rfl (take_ofW HT_.out HW_.out (by kernel_rfl)) (fun _ _ _ h => h) (Or.inl ⟨by rfl, ?_⟩) hHeld ?_ ?_
                     rotate_left
                     ·rintro w' ⟨s0, s1, s2, s3, s4⟩
                      go_simp
                      with_reducible rfl
                     rotate_left
                     ·simp only [Act.put, List.setIfInBounds_toArray, List.set_cons_zero, List.set_cons_succ, i64_w, i32_w]
                      rfl
                     refine one_ (i := 21) (N := some 89) redlineref07_Longest.aa_21 rfl rfl (one_of HT_.out (by kernel_rfl)) (by decide) (fun K hK => ?_)
                     refine goes_ Try.func23 (by kernel_rfl) rfl #[.agg #[.int .i64 ((rd_T26 x7_2 (ji44)).f0), .int .i64 ((rd_T26 x7_2 (ji44)).f1)], .agg #[.int .i64 ((rd_T26 l0 x8_2).f0), .int .i64 ((rd_T26 l0 x8_2).f1)]] (by rfl) rfl rfl (by (try simp only [List.map_toArray, List.map_cons, List.map_nil]); first | done | (simp only [hji44]; rfl) | rfl | (simp only [List.length_drop, List.length_take]; rfl)) ?_
                     with_reducible refine (redlineref07_rises.calls ((rd_T26 x7_2 (ji44)).f0) ((rd_T26 x7_2 (ji44)).f1) ((rd_T26 l0 x8_2).f0) ((rd_T26 l0 x8_2).f1) true _ A48.out).mono ?_
                     rintro e w54 ⟨rfl, hb⟩
                     have HS0_ := (hb.cell (World.block_lt_of_cell? _ _ (hHeld.1))).trans (hHeld.1)
                     have HS1_ := (hb.cell (World.block_lt_of_cell? _ _ (hHeld.2.1))).trans (hHeld.2.1)
                     have HS2_ := (hb.cell (World.block_lt_of_cell? _ _ (hHeld.2.2.1))).trans (hHeld.2.2.1)
                     refine ⟨_, rfl, ?_⟩
                     have n0_ := Aside0.mk (Kd.R_below (by (with_reducible repeat (first | apply Kd.R_alloc | apply Kd.R_drewN | apply Kd.R_drew)); exact HO_3.out) hb)
                     have n1_ := Aside0.mk (Kd.R_below (by (with_reducible repeat (first | apply Kd.R_alloc | apply Kd.R_drewN | apply Kd.R_drew)); exact HO_7.out) hb)
                     have n2_ := Aside0.mk (below_step (by repeat (first | (with_reducible first | exact HB.out | apply below_alloc | apply pw_below_drewN | apply below_drew1) | exact HB.out)) hb)
                     clear HO_3
                     clear HO_7
                     clear HB
                     have HO_3 := n0_
                     have HO_7 := n1_
                     have HB := n2_
                     clear n0_ n1_ n2_
                     (try clear hb)
                     (try clear hb2)
                     (try clear hk)
                     (try clear hi)
                     refine hK.out _ _ ⟨HS0_, HS1_, HS2_, ((HB.out.cell (World.block_lt_of_cell? w _ hw164_0)).trans hw164_0), ((HB.out.cell (World.block_lt_of_cell? w _ hw164_1)).trans hw164_1)⟩ (fun hHeld => ?_)
                     clear hK K
                     refine norm_ (a' := ?_) ?_ ?_
                     rotate_left
                     ·show Act.put _ (some 89) _ = _
                      simp only [Act.put, List.setIfInBounds_toArray, List.set_cons_zero, List.set_cons_succ, i64_w, i32_w]
                      rfl
                     refine pw_ 22 90 redlineref07_Longest.aa_22 HT_.out ?_
                     refine pw_ 23 91 redlineref07_Longest.aa_23 HT_.out ?_
                     refine done_ (done_of HT_.out (by kernel_rfl)) ?_
                     have p166 : 0 ≤ (x8_2 : Int) := of_decide_eq_true (by first | (with_reducible assumption) | assumption)
                     have q166 : x8_2 < (l0.length : Int) := of_decide_eq_true (by first | (with_reducible assumption) | assumption)
                     obtain ⟨ad166, e166, hx166_0, hx166_1⟩ := at_T26 HR0.out x8_2 p166 q166
                     obtain rfl : ad164 = ad166 := (by injection e166)
                     replace hx166_0 := (HB.out.cell (World.block_lt_of_cell? w _ hx166_0)).trans hx166_0
                     replace hx166_1 := (HB.out.cell (World.block_lt_of_cell? w _ hx166_1)).trans hx166_1
                     replace p166 := eq_true p166
                     replace q166 := eq_true q166
                     try go_wp2_with (first | ((with_reducible refine gate_builtin (b := .append) (xs := #[.tmp 92, .tmp 97]) rfl ?_); (try (refine gate_guard (by rfl) ?_; dsimp only)); at_builtin; refine Kd.R_append k26 (w0 := w) w.heap.size rfl (.tmp 92) (.tmp 97) 23 26 (.agg #[(.int .i64 0), (.int .i64 0)]) 16 rfl Try.underlying23 info26 rfl (by decide) (by omega) (.slice (some ad163) x7_2.length co53) x7_2 (⟨(rd_T26 l0 x8_2).f0, (rd_T26 l0 x8_2).f1⟩ : S26) [.int .i64 ((rd_T26 l0 x8_2).f0), .int .i64 ((rd_T26 l0 x8_2).f1)] (fun _ => True) (fun _ => False) rfl rfl ?aP (fun _ hk => hk.elim) ?aF ?aO ?aB ?aS ?aL ?_; (case aP => exact k26_mkM _ _ _ (⟨(rd_T26 l0 x8_2).f0, (rd_T26 l0 x8_2).f1⟩ : S26)); (case aB => exact (by repeat (first | (with_reducible first | exact HB.out | apply below_alloc | apply pw_below_drewN | apply below_drew1) | exact HB.out))); (case aF => exact (fun _ _ => trivial)); (case aO => exact (by (with_reducible repeat (first | apply Kd.R_alloc | apply Kd.R_drewN | apply Kd.R_drew)); exact HO_7.out)); (case aS => exact (below_size (by repeat (first | (with_reducible first | exact HB.out | apply below_alloc | apply pw_below_drewN | apply below_drew1) | exact HB.out)))); (case aL => have := LMc50.out; omega); intro v168 w55 ho hb hg hat; rw [← Ny167.out] at ho; have n0_ := Aside0.mk (Kd.R_over' (by (with_reducible repeat (first | apply Kd.R_alloc | apply Kd.R_drewN | apply Kd.R_drew)); exact HO_3.out) (Kd.R_typed (by (with_reducible repeat (first | apply Kd.R_alloc | apply Kd.R_drewN | apply Kd.R_drew)); exact HO_7.out)) (by decide) hg); have n1_ := Aside0.mk (hb); have n2_ := Aside0.mk (ho); clear HO_3; clear HB; clear HO_7; have HO_3 := n0_; have HB := n1_; have HO169 := n2_; clear n0_ n1_ n2_; clear ho hb hg hat))
                     go_roundg kj30
                     case measure => have := HK1.out; have := HK2.out; have := HJ30.out; omega
                     case rel => exact ⟨(wrap64 (x4_2 - 1)), (y167), (wrap64 (x8_2 + 1)), (by first | rfl | (simp; done) | (simp [*]; done)), (by first | rfl | (simp; done) | (simp [*]; done)), H', ⟨by have := HK1.out; have := HK2.out; have := HJ30.out; omega⟩, ⟨by (with_reducible repeat (first | apply Kd.R_alloc | apply Kd.R_drewN | apply Kd.R_drew)); exact HO_3.out⟩, ⟨by (with_reducible repeat (first | apply Kd.R_alloc | apply Kd.R_drewN | apply Kd.R_drew)); exact HO169.out⟩, ⟨by repeat (first | (with_reducible first | exact HB.out | apply below_alloc | apply pw_below_drewN | apply below_drew1) | exact HB.out)⟩⟩
                    ·rw [if_neg c50] at H
                     exact absurd H (by simp)
                   ·replace c49 := Bool.eq_false_iff.mpr c49
                    subst c49
                    have H1 : (redlineref07_Longest.l2 kj30 l0 x3_1 x4_2 x7_2 (wrap64 (x8_2 + 1))) = some r := by rw [if_neg (show ¬ (false = true) by decide)] at H; exact H
                    clear H
                    have H := H1
                    clear H1
                    have H' := Aside0.mk H
                    clear H
                    try go_wp2
                    have n0_ := Aside0.mk (Kd.R_drew HO_3.out)
                    have n1_ := Aside0.mk (Kd.R_drew HO_7.out)
                    have n2_ := Aside0.mk (below_drew1 HB.out)
                    clear HO_3
                    clear HO_7
                    clear HB
                    have HO_3 := n0_
                    have HO_7 := n1_
                    have HB := n2_
                    clear n0_ n1_ n2_
                    obtain ⟨Ao57, co57, eo57⟩ := Kd.R_slice HO_3.out
                    (first | subst eo57 | (injection eo57 with f1_ f2_ f3_; have f4_ := f1_.symm; have f5_ := f3_.symm; clear f1_ f2_ f3_; subst f4_; subst f5_))
                    have p158 : 0 ≤ (x8_2 : Int) := of_decide_eq_true (by first | (with_reducible assumption) | assumption)
                    have q158 : x8_2 < (x3_1.length : Int) := of_decide_eq_true (by first | (with_reducible assumption) | assumption)
                    obtain ⟨ad158, e158, hx158_0⟩ := Kd.at_int (Kd.R_reads' HO_3.out).2.2 x8_2 p158 q158
                    cases e158
                    replace p158 := eq_true p158
                    replace q158 := eq_true q158
                    obtain ⟨Ao58, co58, eo58⟩ := Kd.R_slice HO_7.out
                    (first | subst eo58 | (injection eo58 with f1_ f2_ f3_; have f4_ := f1_.symm; have f5_ := f3_.symm; clear f1_ f2_ f3_; subst f4_; subst f5_))
                    have p163 : 0 ≤ ((ji44) : Int) := of_decide_eq_true (by first | (with_reducible assumption) | assumption)
                    have q163 : (ji44) < (x7_2.length : Int) := of_decide_eq_true (by first | (with_reducible assumption) | assumption)
                    obtain ⟨ad163, e163, hx163_0, hx163_1⟩ := at_T26 (Kd.R_reads' HO_7.out).2.2 (ji44) p163 q163
                    cases e163
                    replace p163 := eq_true p163
                    replace q163 := eq_true q163
                    have p164 : 0 ≤ (x8_2 : Int) := of_decide_eq_true (by first | (with_reducible assumption) | assumption)
                    have q164 : x8_2 < (l0.length : Int) := of_decide_eq_true (by first | (with_reducible assumption) | assumption)
                    obtain ⟨ad164, e164, hx164_0, hx164_1⟩ := at_T26 HR0.out x8_2 p164 q164
                    have hw164_1 := hx164_1
                    have hw164_0 := hx164_0
                    cases e164
                    replace hx164_0 := (HB.out.cell (World.block_lt_of_cell? w _ hx164_0)).trans hx164_0
                    replace hx164_1 := (HB.out.cell (World.block_lt_of_cell? w _ hx164_1)).trans hx164_1
                    replace p164 := eq_true p164
                    replace q164 := eq_true q164
                    refine start_ (n := 24) (S := fun w' => w'.cell? (ad158.add (x8_2).toNat) = some (.int .i64 (rd x3_1 x8_2)) ∧ w'.cell? (ad163.add (((ji44)).toNat * 2)) = some (.int .i64 ((rd_T26 x7_2 (ji44)).f0)) ∧ w'.cell? ⟨(ad163.add (((ji44)).toNat * 2)).block, (ad163.add (((ji44)).toNat * 2)).off + 1, none⟩ = some (.int .i64 ((rd_T26 x7_2 (ji44)).f1)) ∧ w'.cell? (ad164.add ((x8_2).toNat * 2)) = some (.int .i64 ((rd_T26 l0 x8_2).f0)) ∧ w'.cell? ⟨(ad164.add ((x8_2).toNat * 2)).block, (ad164.add ((x8_2).toNat * 2)).off + 1, none⟩ = some (.int .i64 ((rd_T26 l0 x8_2).f1))) (ds := []) #[false, false, false, false, false, false, false, false, false, false, false, false, false, false, false, false, false, false, false, false, false, false, false, false] (by kernel_rfl) rfl rfl ⟨hx158_0, hx163_0, hx163_1, ((HB.out.cell (World.block_lt_of_cell? w _ hw164_0)).trans hw164_0), ((HB.out.cell (World.block_lt_of_cell? w _ hw164_1)).trans hw164_1)⟩ (fun hHeld => ?_); refine with_tabW redlineref07_Longest.tab17 redlineref07_Longest.bits17 (fun HT_ HW_ => ?_)
                    generalize wc.drew = w56 at HO_3 HO_7 HB hx158_0 hx163_0 hx163_1 hx164_0 hx164_1 hHeld ⊢
                    refine pw_ 0 68 redlineref07_Longest.aa_0 HT_.out ?_
                    refine pw_ 1 69 redlineref07_Longest.aa_1 HT_.out ?_
                    refine pw_ 2 70 redlineref07_Longest.aa_2 HT_.out ?_
                    refine pw_ 4 72 redlineref07_Longest.aa_3 HT_.out ?_
                    refine take_ (i := 3) (N := some 71) (v := ?_) (a' := ?_) redlineref07_Longest.aa_4 rfl rfl (take_ofW HT_.out HW_.out (by kernel_rfl)) (fun _ _ _ h => h) (Or.inl ⟨by rfl, ?_⟩) hHeld ?_ ?_
                    rotate_left
                    ·rintro w' ⟨s0, s1, s2, s3, s4⟩
                     go_simp
                     with_reducible rfl
                    rotate_left
                    ·simp only [Act.put, List.setIfInBounds_toArray, List.set_cons_zero, List.set_cons_succ, i64_w, i32_w]
                     rfl
                    refine pw_ 5 73 redlineref07_Longest.aa_5 HT_.out ?_
                    refine pw_ 6 74 redlineref07_Longest.aa_6 HT_.out ?_
                    refine pw_ 7 75 redlineref07_Longest.aa_7 HT_.out ?_
                    refine pw_ 8 76 redlineref07_Longest.aa_8 HT_.out ?_
                    refine pw_ 9 77 redlineref07_Longest.aa_9 HT_.out ?_
                    refine pw_ 10 78 redlineref07_Longest.aa_10 HT_.out ?_
                    refine pw_ 11 79 redlineref07_Longest.aa_11 HT_.out ?_
                    refine pw_ 12 80 redlineref07_Longest.aa_12 HT_.out ?_
                    refine pw_ 13 81 redlineref07_Longest.aa_13 HT_.out ?_
                    refine pw_ 14 82 redlineref07_Longest.aa_14 HT_.out ?_
                    refine pw_ 15 83 redlineref07_Longest.aa_15 HT_.out ?_
                    refine pw_ 17 85 redlineref07_Longest.aa_24 HT_.out ?_
                    refine pw_ 18 86 redlineref07_Longest.aa_25 HT_.out ?_
                    refine pw_ 19 87 redlineref07_Longest.aa_26 HT_.out ?_
                    refine take_ (i := 16) (N := some 84) (v := ?_) (a' := ?_) redlineref07_Longest.aa_19 rfl rfl (take_ofW HT_.out HW_.out (by kernel_rfl)) (fun _ _ _ h => h) (Or.inl ⟨by rfl, ?_⟩) hHeld ?_ ?_
                    rotate_left
                    ·rintro w' ⟨s0, s1, s2, s3, s4⟩
                     go_simp
                     with_reducible rfl
                    rotate_left
                    ·simp only [Act.put, List.setIfInBounds_toArray, List.set_cons_zero, List.set_cons_succ, i64_w, i32_w]
                     rfl
                    refine take_ (i := 20) (N := some 88) (v := ?_) (a' := ?_) redlineref07_Longest.aa_20 rfl rfl (take_ofW HT_.out HW_.out (by kernel_rfl)) (fun _ _ _ h => h) (Or.inl ⟨by rfl, ?_⟩) hHeld ?_ ?_
                    rotate_left
                    ·rintro w' ⟨s0, s1, s2, s3, s4⟩
                     go_simp
                     with_reducible rfl
                    rotate_left
                    ·simp only [Act.put, List.setIfInBounds_toArray, List.set_cons_zero, List.set_cons_succ, i64_w, i32_w]
                     rfl
                    refine one_ (i := 21) (N := some 89) redlineref07_Longest.aa_21 rfl rfl (one_of HT_.out (by kernel_rfl)) (by decide) (fun K hK => ?_)
                    refine goes_ Try.func23 (by kernel_rfl) rfl #[.agg #[.int .i64 ((rd_T26 x7_2 (ji44)).f0), .int .i64 ((rd_T26 x7_2 (ji44)).f1)], .agg #[.int .i64 ((rd_T26 l0 x8_2).f0), .int .i64 ((rd_T26 l0 x8_2).f1)]] (by rfl) rfl rfl (by (try simp only [List.map_toArray, List.map_cons, List.map_nil]); first | done | (simp only [hji44]; rfl) | rfl | (simp only [List.length_drop, List.length_take]; rfl)) ?_
                    with_reducible refine (redlineref07_rises.calls ((rd_T26 x7_2 (ji44)).f0) ((rd_T26 x7_2 (ji44)).f1) ((rd_T26 l0 x8_2).f0) ((rd_T26 l0 x8_2).f1) false _ A48.out).mono ?_
                    rintro e w59 ⟨rfl, hb⟩
                    have HS0_ := (hb.cell (World.block_lt_of_cell? _ _ (hHeld.1))).trans (hHeld.1)
                    have HS1_ := (hb.cell (World.block_lt_of_cell? _ _ (hHeld.2.1))).trans (hHeld.2.1)
                    have HS2_ := (hb.cell (World.block_lt_of_cell? _ _ (hHeld.2.2.1))).trans (hHeld.2.2.1)
                    refine ⟨_, rfl, ?_⟩
                    have n0_ := Aside0.mk (Kd.R_below (by (with_reducible repeat (first | apply Kd.R_alloc | apply Kd.R_drewN | apply Kd.R_drew)); exact HO_3.out) hb)
                    have n1_ := Aside0.mk (Kd.R_below (by (with_reducible repeat (first | apply Kd.R_alloc | apply Kd.R_drewN | apply Kd.R_drew)); exact HO_7.out) hb)
                    have n2_ := Aside0.mk (below_step (by repeat (first | (with_reducible first | exact HB.out | apply below_alloc | apply pw_below_drewN | apply below_drew1) | exact HB.out)) hb)
                    clear HO_3
                    clear HO_7
                    clear HB
                    have HO_3 := n0_
                    have HO_7 := n1_
                    have HB := n2_
                    clear n0_ n1_ n2_
                    (try clear hb)
                    (try clear hb2)
                    (try clear hk)
                    (try clear hi)
                    refine hK.out _ _ ⟨HS0_, HS1_, HS2_, ((HB.out.cell (World.block_lt_of_cell? w _ hw164_0)).trans hw164_0), ((HB.out.cell (World.block_lt_of_cell? w _ hw164_1)).trans hw164_1)⟩ (fun hHeld => ?_)
                    clear hK K
                    refine norm_ (a' := ?_) ?_ ?_
                    rotate_left
                    ·show Act.put _ (some 89) _ = _
                     simp only [Act.put, List.setIfInBounds_toArray, List.set_cons_zero, List.set_cons_succ, i64_w, i32_w]
                     rfl
                    refine pw_ 22 90 redlineref07_Longest.aa_22 HT_.out ?_
                    refine pw_ 23 91 redlineref07_Longest.aa_23 HT_.out ?_
                    refine done_ (done_of HT_.out (by kernel_rfl)) ?_
                    try go_wp2
                    go_roundg kj30
                    case measure => have := HK1.out; have := HK2.out; have := HJ30.out; omega
                    case rel => exact ⟨(x4_2), (x7_2), (wrap64 (x8_2 + 1)), (by first | rfl | (simp; done) | (simp [*]; done)), (by first | rfl | (simp; done) | (simp [*]; done)), H', ⟨by have := HK1.out; have := HK2.out; have := HJ30.out; omega⟩, ⟨by (with_reducible repeat (first | apply Kd.R_alloc | apply Kd.R_drewN | apply Kd.R_drew)); exact HO_3.out⟩, ⟨by (with_reducible repeat (first | apply Kd.R_alloc | apply Kd.R_drewN | apply Kd.R_drew)); exact HO_7.out⟩, ⟨by repeat (first | (with_reducible first | exact HB.out | apply below_alloc | apply pw_below_drewN | apply below_drew1) | exact HB.out)⟩⟩
                  ·rw [if_neg c47] at H
                   exact absurd H (by simp)
                 ·rw [if_neg c46] at H
                  exact absurd H (by simp)
                ·rw [if_neg c45] at H
                 exact absurd H (by simp)
              ·rw [if_neg c36] at H
               have c36b0 : ((rd x3_1 x8_2) == x4_2) = false := beq_eq_false_iff_ne.mpr c36
               have c36b1 : ((rd x3_1 x8_2) != x4_2) = true := bne_iff_ne.mpr c36
               have H' := Aside0.mk H
               clear H
               try go_wp2
               have n0_ := Aside0.mk (Kd.R_drew HO_3.out)
               have n1_ := Aside0.mk (Kd.R_drew HO_7.out)
               have n2_ := Aside0.mk (below_drew1 HB.out)
               clear HO_3
               clear HO_7
               clear HB
               have HO_3 := n0_
               have HO_7 := n1_
               have HB := n2_
               clear n0_ n1_ n2_
               obtain ⟨Ao61, co61, eo61⟩ := Kd.R_slice HO_3.out
               (first | subst eo61 | (injection eo61 with f1_ f2_ f3_; have f4_ := f1_.symm; have f5_ := f3_.symm; clear f1_ f2_ f3_; subst f4_; subst f5_))
               have p158 : 0 ≤ (x8_2 : Int) := of_decide_eq_true (by first | (with_reducible assumption) | assumption)
               have q158 : x8_2 < (x3_1.length : Int) := of_decide_eq_true (by first | (with_reducible assumption) | assumption)
               obtain ⟨ad158, e158, hx158_0⟩ := Kd.at_int (Kd.R_reads' HO_3.out).2.2 x8_2 p158 q158
               cases e158
               replace p158 := eq_true p158
               replace q158 := eq_true q158
               refine start_ (n := 24) (S := fun w' => w'.cell? (ad158.add (x8_2).toNat) = some (.int .i64 (rd x3_1 x8_2))) (ds := []) #[false, false, false, false, false, false, false, false, false, false, false, false, false, false, false, false, false, false, false, false, false, false, false, false] (by kernel_rfl) rfl rfl (hx158_0) (fun hHeld => ?_); refine with_tabW redlineref07_Longest.tab17 redlineref07_Longest.bits17 (fun HT_ HW_ => ?_)
               generalize wc.drew = w60 at HO_3 HO_7 HB hx158_0 hHeld ⊢
               refine pw_ 0 68 redlineref07_Longest.aa_0 HT_.out ?_
               refine pw_ 1 69 redlineref07_Longest.aa_1 HT_.out ?_
               refine pw_ 2 70 redlineref07_Longest.aa_2 HT_.out ?_
               refine pw_ 4 72 redlineref07_Longest.aa_3 HT_.out ?_
               refine take_ (i := 3) (N := some 71) (v := ?_) (a' := ?_) redlineref07_Longest.aa_4 rfl rfl (take_ofW HT_.out HW_.out (by kernel_rfl)) (fun _ _ _ h => h) (Or.inl ⟨by rfl, ?_⟩) hHeld ?_ ?_
               rotate_left
               ·intro w' s0
                go_simp
                with_reducible rfl
               rotate_left
               ·simp only [Act.put, List.setIfInBounds_toArray, List.set_cons_zero, List.set_cons_succ, i64_w, i32_w]
                rfl
               refine pw_ 5 73 redlineref07_Longest.aa_5 HT_.out ?_
               refine pw_ 6 74 redlineref07_Longest.aa_6 HT_.out ?_
               refine pu_ 7 75 redlineref07_Longest.aa_7 HT_.out ?_
               refine pu_ 8 76 redlineref07_Longest.aa_8 HT_.out ?_
               refine pu_ 9 77 redlineref07_Longest.aa_9 HT_.out ?_
               refine pu_ 10 78 redlineref07_Longest.aa_10 HT_.out ?_
               refine pu_ 11 79 redlineref07_Longest.aa_11 HT_.out ?_
               refine pu_ 12 80 redlineref07_Longest.aa_12 HT_.out ?_
               refine pu_ 13 81 redlineref07_Longest.aa_13 HT_.out ?_
               refine pu_ 14 82 redlineref07_Longest.aa_14 HT_.out ?_
               refine pu_ 15 83 redlineref07_Longest.aa_15 HT_.out ?_
               refine pu_ 16 84 redlineref07_Longest.aa_16 HT_.out ?_
               refine pu_ 17 85 redlineref07_Longest.aa_17 HT_.out ?_
               refine pu_ 18 86 redlineref07_Longest.aa_18 HT_.out ?_
               refine pu_ 19 87 redlineref07_Longest.aa_19 HT_.out ?_
               refine pu_ 20 88 redlineref07_Longest.aa_20 HT_.out ?_
               refine pu_ 21 89 redlineref07_Longest.aa_21 HT_.out ?_
               refine pu_ 22 90 redlineref07_Longest.aa_22 HT_.out ?_
               refine pw_ 23 91 redlineref07_Longest.aa_23 HT_.out ?_
               refine done_ (done_of HT_.out (by kernel_rfl)) ?_
               try go_wp2
               go_roundg kj30
               case measure => have := HK1.out; have := HK2.out; have := HJ30.out; omega
               case rel => exact ⟨(x4_2), (x7_2), (wrap64 (x8_2 + 1)), (by first | rfl | (simp; done) | (simp [*]; done)), (by first | rfl | (simp; done) | (simp [*]; done)), H', ⟨by have := HK1.out; have := HK2.out; have := HJ30.out; omega⟩, ⟨by (with_reducible repeat (first | apply Kd.R_alloc | apply Kd.R_drewN | apply Kd.R_drew)); exact HO_3.out⟩, ⟨by (with_reducible repeat (first | apply Kd.R_alloc | apply Kd.R_drewN | apply Kd.R_drew)); exact HO_7.out⟩, ⟨by repeat (first | (with_reducible first | exact HB.out | apply below_alloc | apply pw_below_drewN | apply below_drew1) | exact HB.out)⟩⟩
             ·rw [if_neg c35] at H
              exact absurd H (by simp)
            ·rw [if_neg c34] at H
             exact absurd H (by simp)
           ·replace c33 := Bool.eq_false_iff.mpr c33
            subst c33
            have H1 : (some x7_2) = some r := by rw [if_neg (show ¬ (false = true) by decide)] at H; exact H
            clear H
            have H := H1
            clear H1
            obtain rfl := Option.some.inj H
            go_wp2
            go_ret
            exact ⟨_, by first | rfl | (simp [errW_none, errW_some] <;> rfl) | (simp [*, errW_none, errW_some] <;> rfl), by (with_reducible repeat (first | apply Kd.R_alloc | apply Kd.R_drewN | apply Kd.R_drew)); exact HO_7.out, by repeat (first | (with_reducible first | exact HB.out | apply below_alloc | apply pw_below_drewN | apply below_drew1) | exact HB.out)⟩
   ·rw [if_neg c3] at H
    exact absurd H (by simp)
  ·rw [if_neg c2] at H
   exact absurd H (by simp)
end Go.Proofs.Ytonbplflmdpikaa.X
