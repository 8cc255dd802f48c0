-- printed by xprint.py, a program of this session's own over the kit's print
import Derived.Test.YtdcldoembdifpaaZXx0
namespace Go.Proofs.Ytdcldoembdifpaa.X
open Go.RowKit Go.Proofs.YtdcldoembdifpaaW.PrintWords Go.Proofs.YtdcldoembdifpaaW.PrintLast Go.Proofs.YtdcldoembdifpaaW.PrintMore
attribute [local go_sem] max2_int min2_int max_two min_two max_three min_three max_four min_four   -- for this text's walks alone
open Go.Proofs.YtdcldoembdifpaaW.HandWords
set_option linter.unusedVariables false
set_option linter.unusedSimpArgs false
/-! ### speedy_Greedy: function 16 -/
mutual
def speedy_Greedy.l0 : Nat → List Int → Int → List Int → Int → List Int → Int → Int → Option (List Int)
  | 0, _, _, _, _, _, _, _ => none
  | k + 1, x1, x2, x7, x8, x15, x16, x17 => if x17 < x16 then (if 0 ≤ x17 then (if x17 < (x15.length : Int) then (speedy_Greedy.l1 k x1 x2 x7 x8 x17 (rd x15 x17) x8 x15 x16 x17) else (none)) else (none)) else (some x7)
def speedy_Greedy.l1 : Nat → List Int → Int → List Int → Int → Int → Int → Int → List Int → Int → Int → Option (List Int)
  | 0, _, _, _, _, _, _, _, _, _, _ => none
  | k + 1, x1, x2, x7, x8, x9, x10, x11, x15, x16, x17 => if x11 < (x1.length : Int) then (speedy_Greedy.j2 k x1 x2 x7 x8 x9 x10 x11 x15 x16 x17 (decide ((wrap64 (x11 - x8)) < x2))) else (speedy_Greedy.j2 k x1 x2 x7 x8 x9 x10 x11 x15 x16 x17 false)
def speedy_Greedy.j2 : Nat → List Int → Int → List Int → Int → Int → Int → Int → List Int → Int → Int → Bool → Option (List Int)
  | 0, _, _, _, _, _, _, _, _, _, _, _ => none
  | k + 1, x1, x2, x7, x8, x9, x10, x11, x15, x16, x17, x33 => if x33 = true then (if 0 ≤ x11 then (if x11 < (x1.length : Int) then (if (rd x1 x11) = x10 then (if 0 ≤ x9 then (if x9 < (x7.length : Int) then (speedy_Greedy.l0 k x1 x2 (x7.set (x9 : Int).toNat x11) (wrap64 (x11 + 1)) x15 x16 (wrap64 (x17 + 1))) else (none)) else (none)) else (speedy_Greedy.l1 k x1 x2 x7 x8 x9 x10 (wrap64 (x11 + 1)) x15 x16 x17)) else (none)) else (none)) else (if 0 ≤ x9 then (if x9 < (x7.length : Int) then (speedy_Greedy.l0 k x1 x2 (x7.set (x9 : Int).toNat (-1)) x8 x15 x16 (wrap64 (x17 + 1))) else (none)) else (none))
end
def speedy_Greedy.f (k : Nat) (l0 : List Int) (l1 : List Int) (a2 : Int) : Option (List Int) := if 0 ≤ (l0.length : Int) then (if ((l0.length : Int) : Int).toNat ≤ 35184372088832 then (speedy_Greedy.l0 k l1 a2 (List.replicate ((l0.length : Int) : Int).toNat 0) 0 l0 (l0.length : Int) 0) else (none)) else (none)
set_option maxHeartbeats 8000000 in
set_option maxRecDepth 100000 in
theorem speedy_Greedy.calls (k : Nat) (A0 : Option Addr) (c0 : Nat) (l0 : List Int) (A1 : Option Addr) (c1 : Nat) (l1 : List Int) (a2 : Int) (r : List Int) (w : World) (hr0 : Kd.C (Kd.int .i64) w A0 l0.length l0) (hc0 : l0.length ≤ c0) (hr1 : Kd.C (Kd.int .i64) w A1 l1.length l1) (hc1 : l1.length ≤ c1) (h : speedy_Greedy.f k l0 l1 a2 = some r) :
    Calls Try.prog 16 #[.slice A0 l0.length c0, .slice A1 l1.length c1, .int .i64 a2] w fun e w' => ∃ v0_ : Value, e = .returned (v0_) ∧ Kd.R (Kd.int .i64) 3 w' w.heap.size (fun _ => True) v0_ r ∧ Below w.heap.size w w' := by
  have HR0 := Aside0.mk hr0
  have HC0 := Aside0.mk hc0
  clear hr0 hc0
  have HR1 := Aside0.mk hr1
  have HC1 := Aside0.mk hc1
  clear hr1 hc1
  have HB := Aside0.mk (Below.refl w.heap.size w)
  have H : (if 0 ≤ (l0.length : Int) then (if ((l0.length : Int) : Int).toNat ≤ 35184372088832 then (speedy_Greedy.l0 k l1 a2 (List.replicate ((l0.length : Int) : Int).toNat 0) 0 l0 (l0.length : Int) 0) else (none)) else (none)) = some r := h
  clear h
  by_cases c4 : 0 ≤ (l0.length : Int)
  ·rw [if_pos c4] at H
   have c4b0 := eq_true c4
   have c4b1 : decide (0 ≤ (l0.length : Int)) = true := decide_eq_true c4
   clear c4
   by_cases c5 : ((l0.length : Int) : Int).toNat ≤ 35184372088832
   ·rw [if_pos c5] at H
    have c5b0 := eq_true c5
    have c5b1 : decide (((l0.length : Int) : Int).toNat ≤ 35184372088832) = true := decide_eq_true c5
    clear c5
    obtain ⟨y103, hy103⟩ : ∃ y_ : List Int, y_ = (List.replicate ((l0.length : Int) : Int).toNat 0) := ⟨_, rfl⟩
    replace H : (speedy_Greedy.l0 k l1 a2 y103 0 l0 (l0.length : Int) 0) = some r := by first | (rw [hy103]; with_reducible exact H) | (have H2_ := (Option.bind_some _ _).symm.trans H; rw [hy103]; with_reducible exact H2_) | (have H2_ := (Option.bind_some _ _).symm.trans H; with_reducible exact H2_) | with_reducible exact H | (rw [hy103]; exact H) | exact H
    have Ny103 := Aside0.mk hy103
    clear hy103
    have H' := Aside0.mk H
    clear H
    go_enter Try.func16, Try.ntmps16
    repeat (go_wp2; go_step3)
    go_wp2_with (first | ((with_reducible refine gate_dst (N := 14) rfl ?_); refine Kd.R_make (Kd.int .i64) _ 3 rfl (N := 14) rfl 22 _ _ rfl (l0.length : Int) rfl rfl Try.underlying22 (.int .i64 0) 8 info3 rfl (by decide) (by omega) 0 (ok := fun _ => True) (okp := fun _ => True) rfl (fun _ hk => hk) trivial (of_decide_eq_true (by first | (with_reducible assumption) | assumption)) (Nat.le_trans (Nat.mul_le_mul_right _ (of_decide_eq_true (by first | (with_reducible assumption) | assumption) : (l0.length : Int).toNat ≤ 35184372088832)) (by omega)) (Below.refl _ _) (Nat.le_refl _) ?_; intro v104 w6 ho7 hb hg_ hnew_; clear hg_ hnew_; (first | rw [← Ny103.out] at ho7 | (simp only [Int.reduceToNat] at ho7; rw [← Ny103.out] at ho7)); have n0_ := Aside0.mk (Kd.R_lower ho7 (below_size (by repeat (first | (with_reducible first | exact HB.out | apply below_alloc | apply pw_below_drewN | apply below_drew1) | exact HB.out)))); have n1_ := Aside0.mk (below_step (by repeat (first | (with_reducible first | exact HB.out | apply below_alloc | apply pw_below_drewN | apply below_drew1) | exact HB.out)) hb); clear HB; have HO105 := n0_; have HB := n1_; clear n0_ n1_; clear hb ho7))
    repeat (go_step3; try go_wp2)
    go_loopg [8, 17] k (fun kq v8 v17 w' => ∃ (x7_1 : List Int) (x8_1 : Int) (x17_1 : Int), v8 = .int .i64 x8_1 ∧ v17 = .int .i64 x17_1 ∧ Aside0 (speedy_Greedy.l0 kq l1 a2 x7_1 x8_1 l0 (l0.length : Int) x17_1 = some r) ∧ Aside0 (kq ≤ k) ∧ Aside0 (Kd.R (Kd.int .i64) 3 w' w.heap.size (fun _ => True) v104 x7_1) ∧ Aside0 (Below w.heap.size w w'))
    case atStart => exact ⟨(y103), (0), (0), (by first | rfl | (simp; done) | (simp [*]; done)), (by first | rfl | (simp; done) | (simp [*]; done)), H', ⟨Nat.le_refl _⟩, ⟨by (with_reducible repeat (first | apply Kd.R_alloc | apply Kd.R_drewN | apply Kd.R_drew)); exact HO105.out⟩, ⟨by repeat (first | (with_reducible first | exact HB.out | apply below_alloc | apply pw_below_drewN | apply below_drew1) | exact HB.out)⟩⟩
    case round =>
     clear H'
     try clear c1
     try clear p2
     try clear p3
     try clear c4
     try clear c4b0
     try clear c4b1
     try clear c5
     try clear c5b0
     try clear c5b1
     obtain ⟨x7_1, x8_1, x17_1, rfl, rfl, HA, HK1, HO_7, HB⟩ := hrel
     cases gk with
     | zero => exact absurd HA.out (by simp [speedy_Greedy.l0])
     | succ k1 =>
      have H := HA.out
      clear HA
      simp only [speedy_Greedy.l0] at H
      by_cases c8 : x17_1 < (l0.length : Int)
      ·rw [if_pos c8] at H
       have c8b0 : decide (x17_1 < (l0.length : Int)) = true := decide_eq_true c8
       clear c8
       by_cases c9 : 0 ≤ x17_1
       ·rw [if_pos c9] at H
        have c9b0 : decide (0 ≤ x17_1) = true := decide_eq_true c9
        clear c9
        by_cases c10 : x17_1 < (l0.length : Int)
        ·rw [if_pos c10] at H
         have c10b0 : decide (x17_1 < (l0.length : Int)) = true := decide_eq_true c10
         clear c10
         have H' := Aside0.mk H
         clear H
         have p106 : 0 ≤ (x17_1 : Int) := of_decide_eq_true (by first | (with_reducible assumption) | assumption)
         have q106 : x17_1 < (l0.length : Int) := of_decide_eq_true (by first | (with_reducible assumption) | assumption)
         obtain ⟨ad106, e106, hx106_0⟩ := Kd.at_int HR0.out x17_1 p106 q106
         cases e106
         replace hx106_0 := (HB.out.cell (World.block_lt_of_cell? w _ hx106_0)).trans hx106_0
         replace p106 := eq_true p106
         replace q106 := eq_true q106
         go_wp2
         repeat (go_step3; try go_wp2)
         go_loopg [8, 11] k1 (fun kq v8 v11 w' => ∃ (x7_2 : List Int) (x8_2 : Int) (x11_2 : Int), v8 = .int .i64 x8_2 ∧ v11 = .int .i64 x11_2 ∧ Aside0 (speedy_Greedy.l1 kq l1 a2 x7_2 x8_2 x17_1 (rd l0 x17_1) x11_2 l0 (l0.length : Int) x17_1 = some r) ∧ Aside0 (kq ≤ k1) ∧ Aside0 (Kd.R (Kd.int .i64) 3 w' w.heap.size (fun _ => True) v104 x7_2) ∧ Aside0 (Below w.heap.size w w'))
         case atStart => exact ⟨(x7_1), (x8_1), (x8_1), (by first | rfl | (simp; done) | (simp [*]; done)), (by first | rfl | (simp; done) | (simp [*]; done)), H', ⟨Nat.le_refl _⟩, ⟨by (with_reducible repeat (first | apply Kd.R_alloc | apply Kd.R_drewN | apply Kd.R_drew)); exact HO_7.out⟩, ⟨by repeat (first | (with_reducible first | exact HB.out | apply below_alloc | apply pw_below_drewN | apply below_drew1) | exact HB.out)⟩⟩
         case round =>
          clear H'
          try clear c1
          try clear p1
          try clear q1
          try clear hx1
          try clear p2
          try clear p3
          try clear c4
          try clear c4b0
          try clear c4b1
          try clear c5
          try clear c5b0
          try clear c5b1
          try clear c8
          try clear c8b0
          try clear c9
          try clear c9b0
          try clear c10
          try clear c10b0
          try clear p10
          try clear q10
          try clear hx10
          try clear hx106_0
          try clear p106
          try clear p2
          try clear p3
          try clear q106
          obtain ⟨x7_2, x8_2, x11_2, rfl, rfl, HA, HK2, HO_7, HB⟩ := hrel
          cases gk with
          | zero => exact absurd HA.out (by simp [speedy_Greedy.l1])
          | succ k2 =>
           have H := HA.out
           clear HA
           simp only [speedy_Greedy.l1] at H
           have HC11 := Aside0.mk H
           clear H
           go_upto_region 7 with (fail)
           go_cut [33] (fun v33 wc => ∃ (kq : Nat) (x33_10 : Bool), v33 = .bool x33_10 ∧ Aside0 (speedy_Greedy.j2 kq l1 a2 x7_2 x8_2 x17_1 (rd l0 x17_1) x11_2 l0 (l0.length : Int) x17_1 x33_10 = some r) ∧ Aside0 (kq ≤ k2) ∧ Aside0 (Kd.R (Kd.int .i64) 3 wc w.heap.size (fun _ => True) v104 x7_2) ∧ Aside0 (Below w.heap.size w wc))
           case first =>
            have H := HC11.out
            clear HC11
            by_cases c12 : x11_2 < (l1.length : Int)
            ·rw [if_pos c12] at H
             have c12b0 : decide (x11_2 < (l1.length : Int)) = true := decide_eq_true c12
             clear c12
             (first | rw [c12b0] | rw [c12b1] | (simp only [i64_w, i32_w]; rw [c12b0]) | skip)
             have H' := Aside0.mk H
             clear H
             go_wp2
             repeat (go_step3; try go_wp2)
             go_meet
             case rel => exact ⟨_, (decide ((wrap64 (x11_2 - x8_2)) < a2)), (by first | rfl | (simp; done) | (simp [*]; done)), H', ⟨by have := HK1.out; have := HK2.out; first | omega | exact Nat.le_refl _⟩, ⟨by (with_reducible repeat (first | apply Kd.R_alloc | apply Kd.R_drewN | apply Kd.R_drew)); exact HO_7.out⟩, ⟨by repeat (first | (with_reducible first | exact HB.out | apply below_alloc | apply pw_below_drewN | apply below_drew1) | exact HB.out)⟩⟩
            ·rw [if_neg c12] at H
             have c12b0 : decide (x11_2 < (l1.length : Int)) = false := decide_eq_false c12
             clear c12
             (first | rw [c12b0] | rw [c12b1] | (simp only [i64_w, i32_w]; rw [c12b0]) | skip)
             have H' := Aside0.mk H
             clear H
             go_wp2
             repeat (go_step3; try go_wp2)
             go_meet
             case rel => exact ⟨_, (false), (by first | rfl | (simp; done) | (simp [*]; done)), H', ⟨by have := HK1.out; have := HK2.out; first | omega | exact Nat.le_refl _⟩, ⟨by (with_reducible repeat (first | apply Kd.R_alloc | apply Kd.R_drewN | apply Kd.R_drew)); exact HO_7.out⟩, ⟨by repeat (first | (with_reducible first | exact HB.out | apply below_alloc | apply pw_below_drewN | apply below_drew1) | exact HB.out)⟩⟩
           case rest =>
            clear HC11
            try clear c1
            try clear p1
            try clear q1
            try clear hx1
            try clear p2
            try clear p3
            try clear c4
            try clear c4b0
            try clear c4b1
            try clear c5
            try clear c5b0
            try clear c5b1
            try clear p6
            try clear c8
            try clear c8b0
            try clear c9
            try clear c9b0
            try clear c10
            try clear c10b0
            try clear p10
            try clear q10
            try clear hx10
            try clear c12
            try clear c12b0
            try clear c12b1
            try clear hx106_0
            try clear p1
            try clear p10
            try clear p106
            try clear p2
            try clear p3
            try clear q1
            try clear q10
            try clear q106
            obtain ⟨kq, x33_10, rfl, HA, HJ10, HO_7, HB⟩ := hcut
            cases kq with
            | zero => exact absurd HA.out (by simp [speedy_Greedy.j2])
            | succ kj10 =>
             have H := HA.out
             clear HA
             simp only [speedy_Greedy.j2] at H
             by_cases c13 : x33_10 = true
             ·subst c13
              have H1 : (if 0 ≤ x11_2 then (if x11_2 < (l1.length : Int) then (if (rd l1 x11_2) = (rd l0 x17_1) then (if 0 ≤ x17_1 then (if x17_1 < (x7_2.length : Int) then (speedy_Greedy.l0 kj10 l1 a2 (x7_2.set (x17_1 : Int).toNat x11_2) (wrap64 (x11_2 + 1)) l0 (l0.length : Int) (wrap64 (x17_1 + 1))) else (none)) else (none)) else (speedy_Greedy.l1 kj10 l1 a2 x7_2 x8_2 x17_1 (rd l0 x17_1) (wrap64 (x11_2 + 1)) l0 (l0.length : Int) x17_1)) else (none)) else (none)) = some r := by rw [if_pos rfl] at H; exact H
              clear H
              have H := H1
              clear H1
              by_cases c14 : 0 ≤ x11_2
              ·rw [if_pos c14] at H
               have c14b0 : decide (0 ≤ x11_2) = true := decide_eq_true c14
               clear c14
               by_cases c15 : x11_2 < (l1.length : Int)
               ·rw [if_pos c15] at H
                have c15b0 : decide (x11_2 < (l1.length : Int)) = true := decide_eq_true c15
                clear c15
                by_cases c16 : (rd l1 x11_2) = (rd l0 x17_1)
                ·rw [if_pos c16] at H
                 have c16b0 : ((rd l1 x11_2) == (rd l0 x17_1)) = true := beq_iff_eq.mpr c16
                 have c16b1 : ((rd l1 x11_2) != (rd l0 x17_1)) = false := bne_eq_false_iff_eq.mpr c16
                 clear c16
                 by_cases c17 : 0 ≤ x17_1
                 ·rw [if_pos c17] at H
                  have c17b0 : decide (0 ≤ x17_1) = true := decide_eq_true c17
                  clear c17
                  by_cases c18 : x17_1 < (x7_2.length : Int)
                  ·rw [if_pos c18] at H
                   have c18b0 : decide (x17_1 < (x7_2.length : Int)) = true := decide_eq_true c18
                   clear c18
                   obtain ⟨y108, hy108⟩ : ∃ y_ : List Int, y_ = (x7_2.set (x17_1 : Int).toNat x11_2) := ⟨_, rfl⟩
                   replace H : (speedy_Greedy.l0 kj10 l1 a2 y108 (wrap64 (x11_2 + 1)) l0 (l0.length : Int) (wrap64 (x17_1 + 1))) = some r := by first | (rw [hy108]; with_reducible exact H) | (have H2_ := (Option.bind_some _ _).symm.trans H; rw [hy108]; with_reducible exact H2_) | (have H2_ := (Option.bind_some _ _).symm.trans H; with_reducible exact H2_) | with_reducible exact H | (rw [hy108]; exact H) | exact H
                   have Ny108 := Aside0.mk hy108
                   clear hy108
                   have H' := Aside0.mk H
                   clear H
                   have p107 : 0 ≤ (x11_2 : Int) := of_decide_eq_true (by first | (with_reducible assumption) | assumption)
                   have q107 : x11_2 < (l1.length : Int) := of_decide_eq_true (by first | (with_reducible assumption) | assumption)
                   obtain ⟨ad107, e107, hx107_0⟩ := Kd.at_int HR1.out x11_2 p107 q107
                   cases e107
                   replace hx107_0 := (HB.out.cell (World.block_lt_of_cell? w _ hx107_0)).trans hx107_0
                   replace p107 := eq_true p107
                   replace q107 := eq_true q107
                   have p19 : 0 ≤ (x17_1 : Int) := of_decide_eq_true (by first | (with_reducible assumption) | assumption)
                   have q19 : (x17_1 : Int) < ((x7_2.length : Int) : Int) := of_decide_eq_true (by first | (with_reducible assumption) | assumption)
                   obtain ⟨go19, co19, eo19, gb19, gl19, cl19, HG19⟩ := Kd.R_form HO_7.out (by omega)
                   (first | cases eo19 | (injection eo19 with ea_ en_ ec_; (first | subst ea_ | (injection ea_ with ea_; subst ea_)); subst ec_; clear en_))
                   have GB19 := Aside0.mk gb19
                   have GG19 := Aside0.mk HG19
                   clear gb19 gl19 HG19
                   obtain ⟨hx19_0, hf19_0⟩ := Kd.R_celln 0 HO_7.out (x17_1 : Int) p19 q19
                   replace p19 := eq_true p19
                   replace q19 := eq_true q19
                   have HP20 := Kd.R_putg HO_7.out (x17_1 : Int) x11_2
                   go_wp2_with (first | ((with_reducible refine gate_store (t := 3) (p := 47) rfl ?_); refine store_event (t := 3) (p := 47) (v := ?vo_w21) (w1 := (wc.setCell ⟨go19, (x17_1 : Int).toNat, none⟩ (.int .i64 x11_2))) ?hg ?ho ?hn ?hr ?_; (case ho => rfl); (case hg => rfl); (case hn => rfl); (case hr => first | (go_simp; done) | (go_simp; rfl)); intro w21 hw; have hg : wc.grownBy w21 (some go19) := (by rw [hw]; exact HP20.2); have hp_ : Kd.R (Kd.int .i64) 3 w21 w.heap.size (fun _ => True) (.slice (some ⟨go19, 0, none⟩) x7_2.length co19) y108 := (by rw [hw, Ny108.out]; exact HP20.1); clear HP20; have n0_ := Aside0.mk (hp_); have n1_ := Aside0.mk ((by rw [hw]; exact below_set (HB.out) GB19.out : Below w.heap.size w w21)); clear HO_7; clear HB; have HO_7 := n0_; have HB := n1_; clear n0_ n1_; clear hg hw hp_))
                   repeat (go_step3; try go_wp2)
                   go_roundg kj10
                   case measure => have := HK1.out; have := HK2.out; have := HJ10.out; omega
                   case rel => exact ⟨(y108), (wrap64 (x11_2 + 1)), (wrap64 (x17_1 + 1)), (by first | rfl | (simp; done) | (simp [*]; done)), (by first | rfl | (simp; done) | (simp [*]; done)), H', ⟨by have := HK1.out; have := HK2.out; have := HJ10.out; omega⟩, ⟨by (with_reducible repeat (first | apply Kd.R_alloc | apply Kd.R_drewN | apply Kd.R_drew)); exact HO_7.out⟩, ⟨by repeat (first | (with_reducible first | exact HB.out | apply below_alloc | apply pw_below_drewN | apply below_drew1) | exact HB.out)⟩⟩
                  ·rw [if_neg c18] at H
                   exact absurd H (by simp)
                 ·rw [if_neg c17] at H
                  exact absurd H (by simp)
                ·rw [if_neg c16] at H
                 have c16b0 : ((rd l1 x11_2) == (rd l0 x17_1)) = false := beq_eq_false_iff_ne.mpr c16
                 have c16b1 : ((rd l1 x11_2) != (rd l0 x17_1)) = true := bne_iff_ne.mpr c16
                 have H' := Aside0.mk H
                 clear H
                 have p107 : 0 ≤ (x11_2 : Int) := of_decide_eq_true (by first | (with_reducible assumption) | assumption)
                 have q107 : x11_2 < (l1.length : Int) := of_decide_eq_true (by first | (with_reducible assumption) | assumption)
                 obtain ⟨ad107, e107, hx107_0⟩ := Kd.at_int HR1.out x11_2 p107 q107
                 cases e107
                 replace hx107_0 := (HB.out.cell (World.block_lt_of_cell? w _ hx107_0)).trans hx107_0
                 replace p107 := eq_true p107
                 replace q107 := eq_true q107
                 go_wp2
                 repeat (go_step3; try go_wp2)
                 go_roundg kj10
                 case measure => have := HK1.out; have := HK2.out; have := HJ10.out; omega
                 case rel => exact ⟨(x7_2), (x8_2), (wrap64 (x11_2 + 1)), (by first | rfl | (simp; done) | (simp [*]; done)), (by first | rfl | (simp; done) | (simp [*]; done)), H', ⟨by have := HK1.out; have := HK2.out; have := HJ10.out; omega⟩, ⟨by (with_reducible repeat (first | apply Kd.R_alloc | apply Kd.R_drewN | apply Kd.R_drew)); exact HO_7.out⟩, ⟨by repeat (first | (with_reducible first | exact HB.out | apply below_alloc | apply pw_below_drewN | apply below_drew1) | exact HB.out)⟩⟩
               ·rw [if_neg c15] at H
                exact absurd H (by simp)
              ·rw [if_neg c14] at H
               exact absurd H (by simp)
             ·replace c13 := Bool.eq_false_iff.mpr c13
              subst c13
              have H1 : (if 0 ≤ x17_1 then (if x17_1 < (x7_2.length : Int) then (speedy_Greedy.l0 kj10 l1 a2 (x7_2.set (x17_1 : Int).toNat (-1)) x8_2 l0 (l0.length : Int) (wrap64 (x17_1 + 1))) else (none)) else (none)) = some r := by rw [if_neg (show ¬ (false = true) by decide)] at H; exact H
              clear H
              have H := H1
              clear H1
              by_cases c22 : 0 ≤ x17_1
              ·rw [if_pos c22] at H
               have c22b0 : decide (0 ≤ x17_1) = true := decide_eq_true c22
               clear c22
               by_cases c23 : x17_1 < (x7_2.length : Int)
               ·rw [if_pos c23] at H
                have c23b0 : decide (x17_1 < (x7_2.length : Int)) = true := decide_eq_true c23
                clear c23
                obtain ⟨y109, hy109⟩ : ∃ y_ : List Int, y_ = (x7_2.set (x17_1 : Int).toNat (-1)) := ⟨_, rfl⟩
                replace H : (speedy_Greedy.l0 kj10 l1 a2 y109 x8_2 l0 (l0.length : Int) (wrap64 (x17_1 + 1))) = some r := by first | (rw [hy109]; with_reducible exact H) | (have H2_ := (Option.bind_some _ _).symm.trans H; rw [hy109]; with_reducible exact H2_) | (have H2_ := (Option.bind_some _ _).symm.trans H; with_reducible exact H2_) | with_reducible exact H | (rw [hy109]; exact H) | exact H
                have Ny109 := Aside0.mk hy109
                clear hy109
                have H' := Aside0.mk H
                clear H
                have p24 : 0 ≤ (x17_1 : Int) := of_decide_eq_true (by first | (with_reducible assumption) | assumption)
                have q24 : (x17_1 : Int) < ((x7_2.length : Int) : Int) := of_decide_eq_true (by first | (with_reducible assumption) | assumption)
                obtain ⟨go24, co24, eo24, gb24, gl24, cl24, HG24⟩ := Kd.R_form HO_7.out (by omega)
                (first | cases eo24 | (injection eo24 with ea_ en_ ec_; (first | subst ea_ | (injection ea_ with ea_; subst ea_)); subst ec_; clear en_))
                have GB24 := Aside0.mk gb24
                have GG24 := Aside0.mk HG24
                clear gb24 gl24 HG24
                obtain ⟨hx24_0, hf24_0⟩ := Kd.R_celln 0 HO_7.out (x17_1 : Int) p24 q24
                replace p24 := eq_true p24
                replace q24 := eq_true q24
                have HP25 := Kd.R_putg HO_7.out (x17_1 : Int) (-1)
                go_wp2_with (first | ((with_reducible refine gate_store (t := 3) (p := 50) rfl ?_); refine store_event (t := 3) (p := 50) (v := ?vo_w26) (w1 := (wc.setCell ⟨go24, (x17_1 : Int).toNat, none⟩ (.int .i64 (-1)))) ?hg ?ho ?hn ?hr ?_; (case ho => rfl); (case hg => rfl); (case hn => rfl); (case hr => first | (go_simp; done) | (go_simp; rfl)); intro w26 hw; have hg : wc.grownBy w26 (some go24) := (by rw [hw]; exact HP25.2); have hp_ : Kd.R (Kd.int .i64) 3 w26 w.heap.size (fun _ => True) (.slice (some ⟨go24, 0, none⟩) x7_2.length co24) y109 := (by rw [hw, Ny109.out]; exact HP25.1); clear HP25; have n0_ := Aside0.mk (hp_); have n1_ := Aside0.mk ((by rw [hw]; exact below_set (HB.out) GB24.out : Below w.heap.size w w26)); clear HO_7; clear HB; have HO_7 := n0_; have HB := n1_; clear n0_ n1_; clear hg hw hp_))
                repeat (go_step3; try go_wp2)
                go_roundg kj10
                case measure => have := HK1.out; have := HK2.out; have := HJ10.out; omega
                case rel => exact ⟨(y109), (x8_2), (wrap64 (x17_1 + 1)), (by first | rfl | (simp; done) | (simp [*]; done)), (by first | rfl | (simp; done) | (simp [*]; done)), H', ⟨by have := HK1.out; have := HK2.out; have := HJ10.out; omega⟩, ⟨by (with_reducible repeat (first | apply Kd.R_alloc | apply Kd.R_drewN | apply Kd.R_drew)); exact HO_7.out⟩, ⟨by repeat (first | (with_reducible first | exact HB.out | apply below_alloc | apply pw_below_drewN | apply below_drew1) | exact HB.out)⟩⟩
               ·rw [if_neg c23] at H
                exact absurd H (by simp)
              ·rw [if_neg c22] at H
               exact absurd H (by simp)
        ·rw [if_neg c10] at H
         exact absurd H (by simp)
       ·rw [if_neg c9] at H
        exact absurd H (by simp)
      ·rw [if_neg c8] at H
       have c8b0 : decide (x17_1 < (l0.length : Int)) = false := decide_eq_false c8
       clear c8
       obtain rfl := Option.some.inj H
       go_wp2
       repeat (go_step3; try go_wp2)
       (try rw [Exit.noGoto_ret]); go_ret
       exact ⟨_, by first | rfl | (simp [errW_none, errW_some] <;> rfl) | (simp [*, errW_none, errW_some] <;> rfl), by (with_reducible repeat (first | apply Kd.R_alloc | apply Kd.R_drewN | apply Kd.R_drew)); exact HO_7.out, by repeat (first | (with_reducible first | exact HB.out | apply below_alloc | apply pw_below_drewN | apply below_drew1) | exact HB.out)⟩
   ·rw [if_neg c5] at H
    exact absurd H (by simp)
  ·rw [if_neg c4] at H
   exact absurd H (by simp)
end Go.Proofs.Ytdcldoembdifpaa.X
