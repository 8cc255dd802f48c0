-- printed by xprint.py, a program of this session's own over the kit's print
import Derived.Test.YtdcldoembdifpaaZDXx0
import Derived.Test.YtdcldoembdifpaaZDXx9
import Derived.Test.YtdcldoembdifpaaZDWA
namespace Go.Proofs.Ytdcldoembdifpaa.X
open Go.RowKit Go.Proofs.YtdcldoembdifpaaW.PrintWords Go.Proofs.YtdcldoembdifpaaW.PrintLast Go.Proofs.YtdcldoembdifpaaW.PrintMore
attribute [local go_sem] max2_int min2_int max_two min_two max_three min_three max_four min_four   -- for this text's walks alone
open Go.Proofs.YtdcldoembdifpaaW.HandWords Go.Proofs.YtdcldoembdifpaaW.HandShort
set_option linter.unusedVariables false
set_option linter.unusedSimpArgs false
/-! ### redlineref08_Runs: function 36 -/
mutual
def redlineref08_Runs.l0 : Nat → List Int → List Int → List (S30) → Int → Option ((List (S30)))
  | 0, _, _, _, _ => none
  | k + 1, x0, x1, x5, x6 => if x6 < (x0.length : Int) then (redlineref08_Runs.l1 k x0 x1 x5 x6 0) else (some x5)
def redlineref08_Runs.l1 : Nat → List Int → List Int → List (S30) → Int → Int → Option ((List (S30)))
  | 0, _, _, _, _, _ => none
  | k + 1, x0, x1, x5, x6, x7 => if x7 < (x1.length : Int) then (if 0 ≤ x6 then (if x6 < (x0.length : Int) then (if 0 ≤ x7 then (if (rd x0 x6) = (rd x1 x7) then (if x6 > 0 then (if x7 > 0 then (if 0 ≤ (wrap64 (x6 - 1)) then (if (wrap64 (x6 - 1)) < (x0.length : Int) then (if 0 ≤ (wrap64 (x7 - 1)) then (if (wrap64 (x7 - 1)) < (x1.length : Int) then (redlineref08_Runs.j2 k x0 x1 x5 x6 x7 ((rd x0 (wrap64 (x6 - 1))) == (rd x1 (wrap64 (x7 - 1))))) else (none)) else (none)) else (none)) else (none)) else (redlineref08_Runs.j2 k x0 x1 x5 x6 x7 false)) else (redlineref08_Runs.j2 k x0 x1 x5 x6 x7 false)) else (redlineref08_Runs.j2 k x0 x1 x5 x6 x7 true)) else (none)) else (none)) else (none)) else (redlineref08_Runs.l0 k x0 x1 x5 (wrap64 (x6 + 1)))
def redlineref08_Runs.j2 : Nat → List Int → List Int → List (S30) → Int → Int → Bool → Option ((List (S30)))
  | 0, _, _, _, _, _, _ => none
  | k + 1, x0, x1, x5, x6, x7, x50 => if x50 = true then (redlineref08_Runs.l1 k x0 x1 x5 x6 (wrap64 (x7 + 1))) else (redlineref08_Runs.l2 k x0 x1 x5 x6 x7 x6 x7 0 (x0.length : Int))
def redlineref08_Runs.l2 : Nat → List Int → List Int → List (S30) → Int → Int → Int → Int → Int → Int → Option ((List (S30)))
  | 0, _, _, _, _, _, _, _, _, _ => none
  | k + 1, x0, x1, x5, x6, x7, x142000, x142001, x142002, x142003 => if (wrap64 (x6 + x142002)) < (x0.length : Int) then (if (wrap64 (x7 + x142002)) < (x1.length : Int) then (if 0 ≤ (wrap64 (x6 + x142002)) then (if 0 ≤ (wrap64 (x7 + x142002)) then (if (rd x0 (wrap64 (x6 + x142002))) = (rd x1 (wrap64 (x7 + x142002))) then ((redlineref08_times.f k x0 (rd x0 (wrap64 (x6 + x142002)))).bind fun t145 => (redlineref08_Runs.l2 k x0 x1 x5 x6 x7 x142000 x142001 (wrap64 (x142002 + 1)) (mn x142003 t145))) else (if x5.length < 4398046511104 then (redlineref08_Runs.l1 k x0 x1 (x5 ++ [(⟨x142000, x142001, x142002, x142003⟩ : S30)]) x6 (wrap64 (x7 + 1))) else (none))) else (none)) else (none)) else (if x5.length < 4398046511104 then (redlineref08_Runs.l1 k x0 x1 (x5 ++ [(⟨x142000, x142001, x142002, x142003⟩ : S30)]) x6 (wrap64 (x7 + 1))) else (none))) else (if x5.length < 4398046511104 then (redlineref08_Runs.l1 k x0 x1 (x5 ++ [(⟨x142000, x142001, x142002, x142003⟩ : S30)]) x6 (wrap64 (x7 + 1))) else (none))
end
def redlineref08_Runs.f (k : Nat) (l0 : List Int) (l1 : List Int) : Option ((List (S30))) := redlineref08_Runs.l0 k l0 l1 ([] : List (S30)) 0
def redlineref08_Runs.T8 : Bool × List (List Nat × List Nat) := (true, [([], []), ([], []), ([0, 1], [0, 1]), ([2], [2]), ([], []), ([], []), ([4, 5], [4, 5]), ([6], [6]), ([3, 7], [3, 7]), ([8], [8]), ([9], [9]), ([10, 9], [9, 10]), ([11, 9, 9], [9, 11]), ([12], [12]), ([13, 12], [12, 13]), ([12, 14, 9], [9, 12, 14]), ([15, 12, 9], [9, 15]), ([16], [16]), ([16], [16]), ([18, 16], [16, 18]), ([17, 19, 16], [16, 17, 19]), ([20, 16], [16, 20]), ([16], [16]), ([16], [16]), ([23, 16], [16, 23]), ([22, 24, 16], [16, 22, 24]), ([25, 16], [16, 25]), ([21, 26, 16], [16, 21, 26]), ([16, 27, 9], [9, 16, 27]), ([9, 28], [9, 28])])
def redlineref08_Runs.B8 : List Nat := [0, 0, 3, 7, 0, 0, 48, 112, 255, 511, 1023, 2047, 4095, 8191, 16383, 32767, 65535, 131071, 131071, 393215, 1048575, 2097151, 131071, 131071, 8519679, 29491199, 63045631, 134217727, 268435455, 536870911]
theorem redlineref08_Runs.tab8 : rtab .any (opsOf Try.f36 8) = redlineref08_Runs.T8 := by kernel_rfl
theorem redlineref08_Runs.bits8 : waitsOk redlineref08_Runs.T8.2 redlineref08_Runs.B8 = true := by kernel_rfl
def redlineref08_Runs.T10 : Bool × List (List Nat × List Nat) := (true, [([], []), ([], []), ([1], [1]), ([0, 2], [0, 2]), ([], []), ([4], [4]), ([3, 5], [3, 5]), ([6], [6]), ([7], [7]), ([7], [7]), ([9, 7], [7, 9]), ([8, 10, 7], [7, 8, 10]), ([7], [7]), ([12, 7], [7, 12]), ([11, 13, 7], [7, 11, 13]), ([7, 14], [7, 14]), ([15, 7], [15]), ([16], [16]), ([16], [16]), ([16], [16]), ([19, 16], [16, 19]), ([18, 20, 16], [16, 18, 20]), ([17, 21, 16], [16, 17, 21]), ([22, 16], [16, 22]), ([16], [16]), ([16], [16]), ([16], [16]), ([26, 16], [16, 26]), ([25, 27, 16], [16, 25, 27]), ([24, 28, 16], [16, 24, 28]), ([29, 16], [16, 29]), ([23, 30, 16], [16, 23, 30]), ([16, 31], [16, 31])])
def redlineref08_Runs.B10 : List Nat := [0, 0, 2, 7, 0, 16, 63, 127, 255, 255, 767, 2047, 255, 4351, 16383, 32767, 65535, 131071, 131071, 131071, 655359, 1966079, 4194303, 8388607, 131071, 131071, 131071, 67239935, 235012095, 520224767, 1057095679, 2147483647, 4294967295]
theorem redlineref08_Runs.tab10 : rtab .any (opsOf Try.f36 10) = redlineref08_Runs.T10 := by kernel_rfl
theorem redlineref08_Runs.bits10 : waitsOk redlineref08_Runs.T10.2 redlineref08_Runs.B10 = true := by kernel_rfl
def redlineref08_Runs.T11 : Bool × List (List Nat × List Nat) := (true, [([], []), ([0], [0]), ([], []), ([], []), ([], []), ([], []), ([5], [5]), ([4, 6], [4, 6]), ([3, 7], [3, 7]), ([8], [8]), ([2, 9], [2, 9]), ([1, 10], [1, 10]), ([0, 1, 2, 3, 4, 5, 6, 7, 8, 9, 10, 11], []), ([12, 11, 10, 0, 1, 2, 3, 4, 5, 6, 7, 8, 9, 10, 11], [11, 12])])
def redlineref08_Runs.B11 : List Nat := [0, 1, 0, 0, 0, 0, 32, 112, 248, 504, 1020, 2047, 4095, 8191]
theorem redlineref08_Runs.tab11 : rtab .any (opsOf Try.f36 11) = redlineref08_Runs.T11 := by kernel_rfl
theorem redlineref08_Runs.bits11 : waitsOk redlineref08_Runs.T11.2 redlineref08_Runs.B11 = true := by kernel_rfl
set_option maxHeartbeats 8000000 in
set_option maxRecDepth 100000 in
theorem redlineref08_Runs.calls (k : Nat) (A0 : Option Addr) (c0 : Nat) (l0 : List Int) (A1 : Option Addr) (c1 : Nat) (l1 : List Int) (r : List (S30)) (w : World) (hr0 : Kd.C (Kd.int .i64) w A0 l0.length l0) (hc0 : l0.length ≤ c0) (hr1 : Kd.C (Kd.int .i64) w A1 l1.length l1) (hc1 : l1.length ≤ c1) (h : redlineref08_Runs.f k l0 l1 = some r) :
    Calls Try.prog 36 #[.slice A0 l0.length c0, .slice A1 l1.length c1] w fun e w' => ∃ v0_ : Value, e = .returned (v0_) ∧ Kd.R k30 30 w' w.heap.size (fun _ => True) v0_ r ∧ Below w.heap.size w w' := by
  have hu30 := Try.underlying30
  have HR0 := Aside0.mk hr0
  have HC0 := Aside0.mk hc0
  clear hr0 hc0
  have HR1 := Aside0.mk hr1
  have HC1 := Aside0.mk hc1
  clear hr1 hc1
  have HB := Aside0.mk (Below.refl w.heap.size w)
  have H : (redlineref08_Runs.l0 k l0 l1 ([] : List (S30)) 0) = some r := h
  clear h
  have H' := Aside0.mk H
  clear H
  go_enter Try.func36, Try.ntmps36
  go_wp2
  go_loopg [5, 6] k (fun kq v5 v6 w' => ∃ (x5_1 : List (S30)) (x6_1 : Int), v6 = .int .i64 x6_1 ∧ Aside0 (redlineref08_Runs.l0 kq l0 l1 x5_1 x6_1 = some r) ∧ Aside0 (kq ≤ k) ∧ Aside0 (Kd.R k30 30 w' w.heap.size (fun _ => True) v5 x5_1) ∧ Aside0 (Below w.heap.size w w'))
  case atStart => exact ⟨(([] : List (S30))), (0), (by first | rfl | (simp; done) | (simp [*]; done)), H', ⟨Nat.le_refl _⟩, ⟨by first | exact Kd.R_nil _ _ _ _ _ | exact Kd.N_nil _ _ _ _ _ | exact Kd.V_nil _ _ _ _ _ | exact Kd.Q_nil _ _ _ _ _ | exact Kd.S_nil _ _ _ _ _⟩, ⟨by repeat (first | (with_reducible first | exact HB.out | apply below_alloc | apply pw_below_drewN | apply below_drew1) | exact HB.out)⟩⟩
  case round =>
   clear H'
   try clear c1
   try clear p2
   obtain ⟨x5_1, x6_1, rfl, HA, HK1, HO_5, HB⟩ := hrel
   cases gk with
   | zero => exact absurd HA.out (by simp [redlineref08_Runs.l0])
   | succ k1 =>
    have H := HA.out
    clear HA
    simp only [redlineref08_Runs.l0] at H
    by_cases c3 : x6_1 < (l0.length : Int)
    ·rw [if_pos c3] at H
     have c3b0 : decide (x6_1 < (l0.length : Int)) = true := decide_eq_true c3
     clear c3
     have H' := Aside0.mk H
     clear H
     go_wp2
     go_loopg [5, 7] k1 (fun kq v5 v7 w' => ∃ (x5_2 : List (S30)) (x7_2 : Int), v7 = .int .i64 x7_2 ∧ Aside0 (redlineref08_Runs.l1 kq l0 l1 x5_2 x6_1 x7_2 = some r) ∧ Aside0 (kq ≤ k1) ∧ Aside0 (Kd.R k30 30 w' w.heap.size (fun _ => True) v5 x5_2) ∧ Aside0 (Below w.heap.size w w'))
     case atStart => exact ⟨(x5_1), (0), (by first | rfl | (simp; done) | (simp [*]; done)), H', ⟨Nat.le_refl _⟩, ⟨by (with_reducible repeat (first | apply Kd.R_alloc | apply Kd.R_drewN | apply Kd.R_drew)); exact HO_5.out⟩, ⟨by repeat (first | (with_reducible first | exact HB.out | apply below_alloc | apply pw_below_drewN | apply below_drew1) | exact HB.out)⟩⟩
     case round =>
      clear H'
      try clear c1
      try clear p2
      try clear c3
      try clear c3b0
      try clear p2
      obtain ⟨x5_2, x7_2, rfl, HA, HK2, HO_5, HB⟩ := hrel
      cases gk with
      | zero => exact absurd HA.out (by simp [redlineref08_Runs.l1])
      | succ k2 =>
       have H := HA.out
       clear HA
       simp only [redlineref08_Runs.l1] at H
       by_cases c4 : x7_2 < (l1.length : Int)
       ·rw [if_pos c4] at H
        have c4b0 : decide (x7_2 < (l1.length : Int)) = true := decide_eq_true c4
        clear c4
        have HC5 := Aside0.mk H
        clear H
        go_upto_region 8 with (fail)
        go_cut [50] (fun v50 wc => ∃ (kq : Nat) (x50_4 : Bool), v50 = .bool x50_4 ∧ Aside0 (redlineref08_Runs.j2 kq l0 l1 x5_2 x6_1 x7_2 x50_4 = some r) ∧ Aside0 (kq ≤ k2) ∧ Aside0 (Kd.R k30 30 wc w.heap.size (fun _ => True) u5 x5_2) ∧ Aside0 (Below w.heap.size w wc))
        case first =>
         have H := HC5.out
         clear HC5
         by_cases c6 : 0 ≤ x6_1
         ·rw [if_pos c6] at H
          have c6b0 : decide (0 ≤ x6_1) = true := decide_eq_true c6
          clear c6
          (first | rw [c6b0] | rw [c6b1] | (simp only [i64_w, i32_w]; rw [c6b0]) | skip)
          by_cases c7 : x6_1 < (l0.length : Int)
          ·rw [if_pos c7] at H
           have c7b0 : decide (x6_1 < (l0.length : Int)) = true := decide_eq_true c7
           clear c7
           by_cases c8 : 0 ≤ x7_2
           ·rw [if_pos c8] at H
            have c8b0 : decide (0 ≤ x7_2) = true := decide_eq_true c8
            clear c8
            by_cases c9 : (rd l0 x6_1) = (rd l1 x7_2)
            ·rw [if_pos c9] at H
             have c9b0 : ((rd l0 x6_1) == (rd l1 x7_2)) = true := beq_iff_eq.mpr c9
             have c9b1 : ((rd l0 x6_1) != (rd l1 x7_2)) = false := bne_eq_false_iff_eq.mpr c9
             clear c9
             by_cases c10 : x6_1 > 0
             ·rw [if_pos c10] at H
              have c10b0 : decide (0 < x6_1) = true := decide_eq_true c10
              clear c10
              by_cases c11 : x7_2 > 0
              ·rw [if_pos c11] at H
               have c11b0 : decide (0 < x7_2) = true := decide_eq_true c11
               clear c11
               obtain ⟨ji12, hji12⟩ : ∃ j_ : Int, (wrap64 (x6_1 - 1)) = j_ := ⟨_, rfl⟩
               replace H : (if 0 ≤ (ji12) then (if (ji12) < (l0.length : Int) then (if 0 ≤ (wrap64 (x7_2 - 1)) then (if (wrap64 (x7_2 - 1)) < (l1.length : Int) then (redlineref08_Runs.j2 k2 l0 l1 x5_2 x6_1 x7_2 ((rd l0 (ji12)) == (rd l1 (wrap64 (x7_2 - 1))))) else (none)) else (none)) else (none)) else (none)) = some r := by first | (rw [hji12] at H; exact H) | (simp only [hji12] at H ⊢; exact H)
               have hji12w : (IntKind.i64.wrap (x6_1 - 1)) = ji12 := (i64_w _).trans hji12
               by_cases c13 : 0 ≤ (ji12)
               ·rw [if_pos c13] at H
                have c13b0 : decide (0 ≤ (ji12)) = true := decide_eq_true c13
                clear c13
                by_cases c14 : (ji12) < (l0.length : Int)
                ·rw [if_pos c14] at H
                 have c14b0 : decide ((ji12) < (l0.length : Int)) = true := decide_eq_true c14
                 clear c14
                 obtain ⟨ji15, hji15⟩ : ∃ j_ : Int, (wrap64 (x7_2 - 1)) = j_ := ⟨_, rfl⟩
                 replace H : (if 0 ≤ (ji15) then (if (ji15) < (l1.length : Int) then (redlineref08_Runs.j2 k2 l0 l1 x5_2 x6_1 x7_2 ((rd l0 (ji12)) == (rd l1 (ji15)))) else (none)) else (none)) = some r := by first | (rw [hji15] at H; exact H) | (simp only [hji15] at H ⊢; exact H)
                 have hji15w : (IntKind.i64.wrap (x7_2 - 1)) = ji15 := (i64_w _).trans hji15
                 by_cases c16 : 0 ≤ (ji15)
                 ·rw [if_pos c16] at H
                  have c16b0 : decide (0 ≤ (ji15)) = true := decide_eq_true c16
                  clear c16
                  by_cases c17 : (ji15) < (l1.length : Int)
                  ·rw [if_pos c17] at H
                   have c17b0 : decide ((ji15) < (l1.length : Int)) = true := decide_eq_true c17
                   clear c17
                   have H' := Aside0.mk H
                   clear H
                   try go_wp2
                   have n0_ := Aside0.mk (Kd.R_drew HO_5.out)
                   have n1_ := Aside0.mk (below_drew1 HB.out)
                   clear HO_5
                   clear HB
                   have HO_5 := n0_
                   have HB := n1_
                   clear n0_ n1_
                   have p137 : 0 ≤ (x6_1 : Int) := of_decide_eq_true (by first | (with_reducible assumption) | assumption)
                   have q137 : x6_1 < (l0.length : Int) := of_decide_eq_true (by first | (with_reducible assumption) | assumption)
                   obtain ⟨ad137, e137, hx137_0⟩ := Kd.at_int HR0.out x6_1 p137 q137
                   have hw137_0 := hx137_0
                   cases e137
                   replace hx137_0 := (HB.out.cell (World.block_lt_of_cell? w _ hx137_0)).trans hx137_0
                   replace p137 := eq_true p137
                   replace q137 := eq_true q137
                   have p138 : 0 ≤ (x7_2 : Int) := of_decide_eq_true (by first | (with_reducible assumption) | assumption)
                   have q138 : x7_2 < (l1.length : Int) := of_decide_eq_true (by first | (with_reducible assumption) | assumption)
                   obtain ⟨ad138, e138, hx138_0⟩ := Kd.at_int HR1.out x7_2 p138 q138
                   have hw138_0 := hx138_0
                   cases e138
                   replace hx138_0 := (HB.out.cell (World.block_lt_of_cell? w _ hx138_0)).trans hx138_0
                   replace p138 := eq_true p138
                   replace q138 := eq_true q138
                   have p139 : 0 ≤ ((ji12) : Int) := of_decide_eq_true (by first | (with_reducible assumption) | assumption)
                   have q139 : (ji12) < (l0.length : Int) := of_decide_eq_true (by first | (with_reducible assumption) | assumption)
                   obtain ⟨ad139, e139, hx139_0⟩ := Kd.at_int HR0.out (ji12) p139 q139
                   have hw139_0 := hx139_0
                   obtain rfl : ad137 = ad139 := (by injection e139)
                   replace hx139_0 := (HB.out.cell (World.block_lt_of_cell? w _ hx139_0)).trans hx139_0
                   replace p139 := eq_true p139
                   replace q139 := eq_true q139
                   have p140 : 0 ≤ ((ji15) : Int) := of_decide_eq_true (by first | (with_reducible assumption) | assumption)
                   have q140 : (ji15) < (l1.length : Int) := of_decide_eq_true (by first | (with_reducible assumption) | assumption)
                   obtain ⟨ad140, e140, hx140_0⟩ := Kd.at_int HR1.out (ji15) p140 q140
                   have hw140_0 := hx140_0
                   obtain rfl : ad138 = ad140 := (by injection e140)
                   replace hx140_0 := (HB.out.cell (World.block_lt_of_cell? w _ hx140_0)).trans hx140_0
                   replace p140 := eq_true p140
                   replace q140 := eq_true q140
                   refine start_ (n := 30) (S := fun w' => w'.cell? (ad137.add (x6_1).toNat) = some (.int .i64 (rd l0 x6_1)) ∧ w'.cell? (ad138.add (x7_2).toNat) = some (.int .i64 (rd l1 x7_2)) ∧ w'.cell? (ad137.add ((ji12)).toNat) = some (.int .i64 (rd l0 (ji12))) ∧ w'.cell? (ad138.add ((ji15)).toNat) = some (.int .i64 (rd l1 (ji15)))) (ds := []) #[false, false, false, false, false, false, false, false, false, false, false, false, false, false, false, false, false, false, false, false, false, false, false, false, false, false, false, false, false, false] (by kernel_rfl) rfl rfl ⟨((HB.out.cell (World.block_lt_of_cell? w _ hw137_0)).trans hw137_0), ((HB.out.cell (World.block_lt_of_cell? w _ hw138_0)).trans hw138_0), ((HB.out.cell (World.block_lt_of_cell? w _ hw139_0)).trans hw139_0), ((HB.out.cell (World.block_lt_of_cell? w _ hw140_0)).trans hw140_0)⟩ (fun hHeld => ?_); refine with_tabW redlineref08_Runs.tab8 redlineref08_Runs.bits8 (fun HT_ HW_ => ?_)
                   generalize wr.drew = w18 at HO_5 HB hx137_0 hx138_0 hx139_0 hx140_0 hHeld ⊢
                   refine pw_ 0 21 (ar 30 1) HT_.out ?_
                   refine pw_ 1 22 (ar 30 2) HT_.out ?_
                   refine pw_ 2 23 (ar 30 3) HT_.out ?_
                   refine pw_ 4 25 #[true, true, true, false, true, false, false, false, false, false, false, false, false, false, false, false, false, false, false, false, false, false, false, false, false, false, false, false, false, false] HT_.out ?_
                   refine pw_ 5 26 #[true, true, true, false, true, true, false, false, false, false, false, false, false, false, false, false, false, false, false, false, false, false, false, false, false, false, false, false, false, false] HT_.out ?_
                   refine pw_ 6 27 #[true, true, true, false, true, true, true, false, false, false, false, false, false, false, false, false, false, false, false, false, false, false, false, false, false, false, false, false, false, false] HT_.out ?_
                   refine take_ (i := 3) (N := some 24) (v := ?_) (a' := ?_) (ar 30 7) rfl rfl (take_ofW HT_.out HW_.out (by kernel_rfl)) (fun _ _ _ h => h) (Or.inl ⟨by rfl, ?_⟩) hHeld ?_ ?_
                   rotate_left
                   ·rintro w' ⟨s0, s1, s2, s3⟩
                    go_simp
                    with_reducible rfl
                   rotate_left
                   ·simp only [Act.put, List.setIfInBounds_toArray, List.set_cons_zero, List.set_cons_succ, i64_w, i32_w]
                    rfl
                   refine take_ (i := 7) (N := some 28) (v := ?_) (a' := ?_) (ar 30 8) rfl rfl (take_ofW HT_.out HW_.out (by kernel_rfl)) (fun _ _ _ h => h) (Or.inl ⟨by rfl, ?_⟩) hHeld ?_ ?_
                   rotate_left
                   ·rintro w' ⟨s0, s1, s2, s3⟩
                    go_simp
                    with_reducible rfl
                   rotate_left
                   ·simp only [Act.put, List.setIfInBounds_toArray, List.set_cons_zero, List.set_cons_succ, i64_w, i32_w]
                    rfl
                   refine pw_ 8 29 (ar 30 9) HT_.out ?_
                   refine pw_ 9 30 (ar 30 10) HT_.out ?_
                   refine pw_ 10 31 (ar 30 11) HT_.out ?_
                   refine pw_ 11 32 (ar 30 12) HT_.out ?_
                   refine pw_ 12 33 (ar 30 13) HT_.out ?_
                   refine pw_ 13 34 (ar 30 14) HT_.out ?_
                   refine pw_ 14 35 (ar 30 15) HT_.out ?_
                   refine pw_ 15 36 (ar 30 16) HT_.out ?_
                   refine pw_ 16 37 (ar 30 17) HT_.out ?_
                   refine pw_ 17 38 (ar 30 18) HT_.out ?_
                   refine pw_ 18 39 (ar 30 19) HT_.out ?_
                   refine pw_ 19 40 (ar 30 20) HT_.out ?_
                   refine pw_ 20 41 (ar 30 21) HT_.out ?_
                   refine pw_ 22 43 #[true, true, true, true, true, true, true, true, true, true, true, true, true, true, true, true, true, true, true, true, true, false, true, false, false, false, false, false, false, false] HT_.out ?_
                   refine pw_ 23 44 #[true, true, true, true, true, true, true, true, true, true, true, true, true, true, true, true, true, true, true, true, true, false, true, true, false, false, false, false, false, false] HT_.out ?_
                   refine pw_ 24 45 #[true, true, true, true, true, true, true, true, true, true, true, true, true, true, true, true, true, true, true, true, true, false, true, true, true, false, false, false, false, false] HT_.out ?_
                   refine pw_ 25 46 #[true, true, true, true, true, true, true, true, true, true, true, true, true, true, true, true, true, true, true, true, true, false, true, true, true, true, false, false, false, false] HT_.out ?_
                   refine take_ (i := 21) (N := some 42) (v := ?_) (a' := ?_) (ar 30 26) rfl rfl (take_ofW HT_.out HW_.out (by kernel_rfl)) (fun _ _ _ h => h) (Or.inl ⟨by rfl, ?_⟩) hHeld ?_ ?_
                   rotate_left
                   ·rintro w' ⟨s0, s1, s2, s3⟩
                    go_simp
                    with_reducible rfl
                   rotate_left
                   ·simp only [Act.put, List.setIfInBounds_toArray, List.set_cons_zero, List.set_cons_succ, i64_w, i32_w]
                    rfl
                   refine take_ (i := 26) (N := some 47) (v := ?_) (a' := ?_) (ar 30 27) rfl rfl (take_ofW HT_.out HW_.out (by kernel_rfl)) (fun _ _ _ h => h) (Or.inl ⟨by rfl, ?_⟩) hHeld ?_ ?_
                   rotate_left
                   ·rintro w' ⟨s0, s1, s2, s3⟩
                    go_simp
                    with_reducible rfl
                   rotate_left
                   ·simp only [Act.put, List.setIfInBounds_toArray, List.set_cons_zero, List.set_cons_succ, i64_w, i32_w]
                    rfl
                   refine pw_ 27 48 (ar 30 28) HT_.out ?_
                   refine pw_ 28 49 (ar 30 29) HT_.out ?_
                   refine pw_ 29 50 (ar 30 30) HT_.out ?_
                   refine done_ (done_of HT_.out (by kernel_rfl)) ?_
                   try go_wp2
                   go_meet
                   case rel => exact ⟨_, (((rd l0 (ji12)) == (rd l1 (ji15)))), (by first | rfl | (simp; done) | (simp only [← hji12, ← hji15] <;> (first | rfl | simp)) | (simp [*]; done)), H', ⟨by have := HK1.out; have := HK2.out; first | omega | exact Nat.le_refl _⟩, ⟨by (with_reducible repeat (first | apply Kd.R_alloc | apply Kd.R_drewN | apply Kd.R_drew)); exact HO_5.out⟩, ⟨by repeat (first | (with_reducible first | exact HB.out | apply below_alloc | apply pw_below_drewN | apply below_drew1) | exact HB.out)⟩⟩
                  ·rw [if_neg c17] at H
                   exact absurd H (by simp)
                 ·rw [if_neg c16] at H
                  exact absurd H (by simp)
                ·rw [if_neg c14] at H
                 exact absurd H (by simp)
               ·rw [if_neg c13] at H
                exact absurd H (by simp)
              ·rw [if_neg c11] at H
               have c11b0 : decide (0 < x7_2) = false := decide_eq_false c11
               clear c11
               have H' := Aside0.mk H
               clear H
               try go_wp2
               have n0_ := Aside0.mk (Kd.R_drew HO_5.out)
               have n1_ := Aside0.mk (below_drew1 HB.out)
               clear HO_5
               clear HB
               have HO_5 := n0_
               have HB := n1_
               clear n0_ n1_
               have p137 : 0 ≤ (x6_1 : Int) := of_decide_eq_true (by first | (with_reducible assumption) | assumption)
               have q137 : x6_1 < (l0.length : Int) := of_decide_eq_true (by first | (with_reducible assumption) | assumption)
               obtain ⟨ad137, e137, hx137_0⟩ := Kd.at_int HR0.out x6_1 p137 q137
               have hw137_0 := hx137_0
               cases e137
               replace hx137_0 := (HB.out.cell (World.block_lt_of_cell? w _ hx137_0)).trans hx137_0
               replace p137 := eq_true p137
               replace q137 := eq_true q137
               have p138 : 0 ≤ (x7_2 : Int) := of_decide_eq_true (by first | (with_reducible assumption) | assumption)
               have q138 : x7_2 < (l1.length : Int) := of_decide_eq_true (by first | (with_reducible assumption) | assumption)
               obtain ⟨ad138, e138, hx138_0⟩ := Kd.at_int HR1.out x7_2 p138 q138
               have hw138_0 := hx138_0
               cases e138
               replace hx138_0 := (HB.out.cell (World.block_lt_of_cell? w _ hx138_0)).trans hx138_0
               replace p138 := eq_true p138
               replace q138 := eq_true q138
               refine start_ (n := 30) (S := fun w' => w'.cell? (ad137.add (x6_1).toNat) = some (.int .i64 (rd l0 x6_1)) ∧ w'.cell? (ad138.add (x7_2).toNat) = some (.int .i64 (rd l1 x7_2))) (ds := []) #[false, false, false, false, false, false, false, false, false, false, false, false, false, false, false, false, false, false, false, false, false, false, false, false, false, false, false, false, false, false] (by kernel_rfl) rfl rfl ⟨((HB.out.cell (World.block_lt_of_cell? w _ hw137_0)).trans hw137_0), ((HB.out.cell (World.block_lt_of_cell? w _ hw138_0)).trans hw138_0)⟩ (fun hHeld => ?_); refine with_tabW redlineref08_Runs.tab8 redlineref08_Runs.bits8 (fun HT_ HW_ => ?_)
               generalize wr.drew = w19 at HO_5 HB hx137_0 hx138_0 hHeld ⊢
               refine pw_ 0 21 (ar 30 1) HT_.out ?_
               refine pw_ 1 22 (ar 30 2) HT_.out ?_
               refine pw_ 2 23 (ar 30 3) HT_.out ?_
               refine pw_ 4 25 #[true, true, true, false, true, false, false, false, false, false, false, false, false, false, false, false, false, false, false, false, false, false, false, false, false, false, false, false, false, false] HT_.out ?_
               refine pw_ 5 26 #[true, true, true, false, true, true, false, false, false, false, false, false, false, false, false, false, false, false, false, false, false, false, false, false, false, false, false, false, false, false] HT_.out ?_
               refine pw_ 6 27 #[true, true, true, false, true, true, true, false, false, false, false, false, false, false, false, false, false, false, false, false, false, false, false, false, false, false, false, false, false, false] HT_.out ?_
               refine take_ (i := 3) (N := some 24) (v := ?_) (a' := ?_) (ar 30 7) rfl rfl (take_ofW HT_.out HW_.out (by kernel_rfl)) (fun _ _ _ h => h) (Or.inl ⟨by rfl, ?_⟩) hHeld ?_ ?_
               rotate_left
               ·rintro w' ⟨s0, s1⟩
                go_simp
                with_reducible rfl
               rotate_left
               ·simp only [Act.put, List.setIfInBounds_toArray, List.set_cons_zero, List.set_cons_succ, i64_w, i32_w]
                rfl
               refine take_ (i := 7) (N := some 28) (v := ?_) (a' := ?_) (ar 30 8) rfl rfl (take_ofW HT_.out HW_.out (by kernel_rfl)) (fun _ _ _ h => h) (Or.inl ⟨by rfl, ?_⟩) hHeld ?_ ?_
               rotate_left
               ·rintro w' ⟨s0, s1⟩
                go_simp
                with_reducible rfl
               rotate_left
               ·simp only [Act.put, List.setIfInBounds_toArray, List.set_cons_zero, List.set_cons_succ, i64_w, i32_w]
                rfl
               refine pw_ 8 29 (ar 30 9) HT_.out ?_
               refine pw_ 9 30 (ar 30 10) HT_.out ?_
               refine pw_ 10 31 (ar 30 11) HT_.out ?_
               refine pw_ 11 32 (ar 30 12) HT_.out ?_
               refine pw_ 12 33 (ar 30 13) HT_.out ?_
               refine pw_ 13 34 (ar 30 14) HT_.out ?_
               refine pw_ 14 35 (ar 30 15) HT_.out ?_
               refine pw_ 15 36 (ar 30 16) HT_.out ?_
               refine pw_ 16 37 (ar 30 17) HT_.out ?_
               refine pu_ 17 38 (ar 30 18) HT_.out ?_
               refine pu_ 18 39 (ar 30 19) HT_.out ?_
               refine pu_ 19 40 (ar 30 20) HT_.out ?_
               refine pu_ 20 41 (ar 30 21) HT_.out ?_
               refine pu_ 21 42 (ar 30 22) HT_.out ?_
               refine pu_ 22 43 (ar 30 23) HT_.out ?_
               refine pu_ 23 44 (ar 30 24) HT_.out ?_
               refine pu_ 24 45 (ar 30 25) HT_.out ?_
               refine pu_ 25 46 (ar 30 26) HT_.out ?_
               refine pu_ 26 47 (ar 30 27) HT_.out ?_
               refine pu_ 27 48 (ar 30 28) HT_.out ?_
               refine pw_ 28 49 (ar 30 29) HT_.out ?_
               refine pw_ 29 50 (ar 30 30) HT_.out ?_
               refine done_ (done_of HT_.out (by kernel_rfl)) ?_
               try go_wp2
               go_meet
               case rel => exact ⟨_, (false), (by first | rfl | (simp; done) | (simp [*]; done)), H', ⟨by have := HK1.out; have := HK2.out; first | omega | exact Nat.le_refl _⟩, ⟨by (with_reducible repeat (first | apply Kd.R_alloc | apply Kd.R_drewN | apply Kd.R_drew)); exact HO_5.out⟩, ⟨by repeat (first | (with_reducible first | exact HB.out | apply below_alloc | apply pw_below_drewN | apply below_drew1) | exact HB.out)⟩⟩
             ·rw [if_neg c10] at H
              have c10b0 : decide (0 < x6_1) = false := decide_eq_false c10
              clear c10
              have H' := Aside0.mk H
              clear H
              try go_wp2
              have n0_ := Aside0.mk (Kd.R_drew HO_5.out)
              have n1_ := Aside0.mk (below_drew1 HB.out)
              clear HO_5
              clear HB
              have HO_5 := n0_
              have HB := n1_
              clear n0_ n1_
              have p137 : 0 ≤ (x6_1 : Int) := of_decide_eq_true (by first | (with_reducible assumption) | assumption)
              have q137 : x6_1 < (l0.length : Int) := of_decide_eq_true (by first | (with_reducible assumption) | assumption)
              obtain ⟨ad137, e137, hx137_0⟩ := Kd.at_int HR0.out x6_1 p137 q137
              have hw137_0 := hx137_0
              cases e137
              replace hx137_0 := (HB.out.cell (World.block_lt_of_cell? w _ hx137_0)).trans hx137_0
              replace p137 := eq_true p137
              replace q137 := eq_true q137
              have p138 : 0 ≤ (x7_2 : Int) := of_decide_eq_true (by first | (with_reducible assumption) | assumption)
              have q138 : x7_2 < (l1.length : Int) := of_decide_eq_true (by first | (with_reducible assumption) | assumption)
              obtain ⟨ad138, e138, hx138_0⟩ := Kd.at_int HR1.out x7_2 p138 q138
              have hw138_0 := hx138_0
              cases e138
              replace hx138_0 := (HB.out.cell (World.block_lt_of_cell? w _ hx138_0)).trans hx138_0
              replace p138 := eq_true p138
              replace q138 := eq_true q138
              refine start_ (n := 30) (S := fun w' => w'.cell? (ad137.add (x6_1).toNat) = some (.int .i64 (rd l0 x6_1)) ∧ w'.cell? (ad138.add (x7_2).toNat) = some (.int .i64 (rd l1 x7_2))) (ds := []) #[false, false, false, false, false, false, false, false, false, false, false, false, false, false, false, false, false, false, false, false, false, false, false, false, false, false, false, false, false, false] (by kernel_rfl) rfl rfl ⟨((HB.out.cell (World.block_lt_of_cell? w _ hw137_0)).trans hw137_0), ((HB.out.cell (World.block_lt_of_cell? w _ hw138_0)).trans hw138_0)⟩ (fun hHeld => ?_); refine with_tabW redlineref08_Runs.tab8 redlineref08_Runs.bits8 (fun HT_ HW_ => ?_)
              generalize wr.drew = w20 at HO_5 HB hx137_0 hx138_0 hHeld ⊢
              refine pw_ 0 21 (ar 30 1) HT_.out ?_
              refine pw_ 1 22 (ar 30 2) HT_.out ?_
              refine pw_ 2 23 (ar 30 3) HT_.out ?_
              refine pw_ 4 25 #[true, true, true, false, true, false, false, false, false, false, false, false, false, false, false, false, false, false, false, false, false, false, false, false, false, false, false, false, false, false] HT_.out ?_
              refine pw_ 5 26 #[true, true, true, false, true, true, false, false, false, false, false, false, false, false, false, false, false, false, false, false, false, false, false, false, false, false, false, false, false, false] HT_.out ?_
              refine pw_ 6 27 #[true, true, true, false, true, true, true, false, false, false, false, false, false, false, false, false, false, false, false, false, false, false, false, false, false, false, false, false, false, false] HT_.out ?_
              refine take_ (i := 3) (N := some 24) (v := ?_) (a' := ?_) (ar 30 7) rfl rfl (take_ofW HT_.out HW_.out (by kernel_rfl)) (fun _ _ _ h => h) (Or.inl ⟨by rfl, ?_⟩) hHeld ?_ ?_
              rotate_left
              ·rintro w' ⟨s0, s1⟩
               go_simp
               with_reducible rfl
              rotate_left
              ·simp only [Act.put, List.setIfInBounds_toArray, List.set_cons_zero, List.set_cons_succ, i64_w, i32_w]
               rfl
              refine take_ (i := 7) (N := some 28) (v := ?_) (a' := ?_) (ar 30 8) rfl rfl (take_ofW HT_.out HW_.out (by kernel_rfl)) (fun _ _ _ h => h) (Or.inl ⟨by rfl, ?_⟩) hHeld ?_ ?_
              rotate_left
              ·rintro w' ⟨s0, s1⟩
               go_simp
               with_reducible rfl
              rotate_left
              ·simp only [Act.put, List.setIfInBounds_toArray, List.set_cons_zero, List.set_cons_succ, i64_w, i32_w]
               rfl
              refine pw_ 8 29 (ar 30 9) HT_.out ?_
              refine pw_ 9 30 (ar 30 10) HT_.out ?_
              refine pw_ 10 31 (ar 30 11) HT_.out ?_
              refine pw_ 11 32 (ar 30 12) HT_.out ?_
              refine pw_ 12 33 (ar 30 13) HT_.out ?_
              refine pu_ 13 34 (ar 30 14) HT_.out ?_
              refine pu_ 14 35 (ar 30 15) HT_.out ?_
              refine pw_ 15 36 (ar 30 16) HT_.out ?_
              refine pw_ 16 37 (ar 30 17) HT_.out ?_
              refine pu_ 17 38 (ar 30 18) HT_.out ?_
              refine pu_ 18 39 (ar 30 19) HT_.out ?_
              refine pu_ 19 40 (ar 30 20) HT_.out ?_
              refine pu_ 20 41 (ar 30 21) HT_.out ?_
              refine pu_ 21 42 (ar 30 22) HT_.out ?_
              refine pu_ 22 43 (ar 30 23) HT_.out ?_
              refine pu_ 23 44 (ar 30 24) HT_.out ?_
              refine pu_ 24 45 (ar 30 25) HT_.out ?_
              refine pu_ 25 46 (ar 30 26) HT_.out ?_
              refine pu_ 26 47 (ar 30 27) HT_.out ?_
              refine pu_ 27 48 (ar 30 28) HT_.out ?_
              refine pw_ 28 49 (ar 30 29) HT_.out ?_
              refine pw_ 29 50 (ar 30 30) HT_.out ?_
              refine done_ (done_of HT_.out (by kernel_rfl)) ?_
              try go_wp2
              go_meet
              case rel => exact ⟨_, (false), (by first | rfl | (simp; done) | (simp [*]; done)), H', ⟨by have := HK1.out; have := HK2.out; first | omega | exact Nat.le_refl _⟩, ⟨by (with_reducible repeat (first | apply Kd.R_alloc | apply Kd.R_drewN | apply Kd.R_drew)); exact HO_5.out⟩, ⟨by repeat (first | (with_reducible first | exact HB.out | apply below_alloc | apply pw_below_drewN | apply below_drew1) | exact HB.out)⟩⟩
            ·rw [if_neg c9] at H
             have c9b0 : ((rd l0 x6_1) == (rd l1 x7_2)) = false := beq_eq_false_iff_ne.mpr c9
             have c9b1 : ((rd l0 x6_1) != (rd l1 x7_2)) = true := bne_iff_ne.mpr c9
             have H' := Aside0.mk H
             clear H
             try go_wp2
             have n0_ := Aside0.mk (Kd.R_drew HO_5.out)
             have n1_ := Aside0.mk (below_drew1 HB.out)
             clear HO_5
             clear HB
             have HO_5 := n0_
             have HB := n1_
             clear n0_ n1_
             have p137 : 0 ≤ (x6_1 : Int) := of_decide_eq_true (by first | (with_reducible assumption) | assumption)
             have q137 : x6_1 < (l0.length : Int) := of_decide_eq_true (by first | (with_reducible assumption) | assumption)
             obtain ⟨ad137, e137, hx137_0⟩ := Kd.at_int HR0.out x6_1 p137 q137
             have hw137_0 := hx137_0
             cases e137
             replace hx137_0 := (HB.out.cell (World.block_lt_of_cell? w _ hx137_0)).trans hx137_0
             replace p137 := eq_true p137
             replace q137 := eq_true q137
             have p138 : 0 ≤ (x7_2 : Int) := of_decide_eq_true (by first | (with_reducible assumption) | assumption)
             have q138 : x7_2 < (l1.length : Int) := of_decide_eq_true (by first | (with_reducible assumption) | assumption)
             obtain ⟨ad138, e138, hx138_0⟩ := Kd.at_int HR1.out x7_2 p138 q138
             have hw138_0 := hx138_0
             cases e138
             replace hx138_0 := (HB.out.cell (World.block_lt_of_cell? w _ hx138_0)).trans hx138_0
             replace p138 := eq_true p138
             replace q138 := eq_true q138
             refine start_ (n := 30) (S := fun w' => w'.cell? (ad137.add (x6_1).toNat) = some (.int .i64 (rd l0 x6_1)) ∧ w'.cell? (ad138.add (x7_2).toNat) = some (.int .i64 (rd l1 x7_2))) (ds := []) #[false, false, false, false, false, false, false, false, false, false, false, false, false, false, false, false, false, false, false, false, false, false, false, false, false, false, false, false, false, false] (by kernel_rfl) rfl rfl ⟨((HB.out.cell (World.block_lt_of_cell? w _ hw137_0)).trans hw137_0), ((HB.out.cell (World.block_lt_of_cell? w _ hw138_0)).trans hw138_0)⟩ (fun hHeld => ?_); refine with_tabW redlineref08_Runs.tab8 redlineref08_Runs.bits8 (fun HT_ HW_ => ?_)
             generalize wr.drew = w21 at HO_5 HB hx137_0 hx138_0 hHeld ⊢
             refine pw_ 0 21 (ar 30 1) HT_.out ?_
             refine pw_ 1 22 (ar 30 2) HT_.out ?_
             refine pw_ 2 23 (ar 30 3) HT_.out ?_
             refine pw_ 4 25 #[true, true, true, false, true, false, false, false, false, false, false, false, false, false, false, false, false, false, false, false, false, false, false, false, false, false, false, false, false, false] HT_.out ?_
             refine pw_ 5 26 #[true, true, true, false, true, true, false, false, false, false, false, false, false, false, false, false, false, false, false, false, false, false, false, false, false, false, false, false, false, false] HT_.out ?_
             refine pw_ 6 27 #[true, true, true, false, true, true, true, false, false, false, false, false, false, false, false, false, false, false, false, false, false, false, false, false, false, false, false, false, false, false] HT_.out ?_
             refine take_ (i := 3) (N := some 24) (v := ?_) (a' := ?_) (ar 30 7) rfl rfl (take_ofW HT_.out HW_.out (by kernel_rfl)) (fun _ _ _ h => h) (Or.inl ⟨by rfl, ?_⟩) hHeld ?_ ?_
             rotate_left
             ·rintro w' ⟨s0, s1⟩
              go_simp
              with_reducible rfl
             rotate_left
             ·simp only [Act.put, List.setIfInBounds_toArray, List.set_cons_zero, List.set_cons_succ, i64_w, i32_w]
              rfl
             refine take_ (i := 7) (N := some 28) (v := ?_) (a' := ?_) (ar 30 8) rfl rfl (take_ofW HT_.out HW_.out (by kernel_rfl)) (fun _ _ _ h => h) (Or.inl ⟨by rfl, ?_⟩) hHeld ?_ ?_
             rotate_left
             ·rintro w' ⟨s0, s1⟩
              go_simp
              with_reducible rfl
             rotate_left
             ·simp only [Act.put, List.setIfInBounds_toArray, List.set_cons_zero, List.set_cons_succ, i64_w, i32_w]
              rfl
             refine pw_ 8 29 (ar 30 9) HT_.out ?_
             refine pw_ 9 30 (ar 30 10) HT_.out ?_
             refine pu_ 10 31 (ar 30 11) HT_.out ?_
             refine pu_ 11 32 (ar 30 12) HT_.out ?_
             refine pu_ 12 33 (ar 30 13) HT_.out ?_
             refine pu_ 13 34 (ar 30 14) HT_.out ?_
             refine pu_ 14 35 (ar 30 15) HT_.out ?_
             refine pu_ 15 36 (ar 30 16) HT_.out ?_
             refine pu_ 16 37 (ar 30 17) HT_.out ?_
             refine pu_ 17 38 (ar 30 18) HT_.out ?_
             refine pu_ 18 39 (ar 30 19) HT_.out ?_
             refine pu_ 19 40 (ar 30 20) HT_.out ?_
             refine pu_ 20 41 (ar 30 21) HT_.out ?_
             refine pu_ 21 42 (ar 30 22) HT_.out ?_
             refine pu_ 22 43 (ar 30 23) HT_.out ?_
             refine pu_ 23 44 (ar 30 24) HT_.out ?_
             refine pu_ 24 45 (ar 30 25) HT_.out ?_
             refine pu_ 25 46 (ar 30 26) HT_.out ?_
             refine pu_ 26 47 (ar 30 27) HT_.out ?_
             refine pu_ 27 48 (ar 30 28) HT_.out ?_
             refine pu_ 28 49 (ar 30 29) HT_.out ?_
             refine pw_ 29 50 (ar 30 30) HT_.out ?_
             refine done_ (done_of HT_.out (by kernel_rfl)) ?_
             try go_wp2
             go_meet
             case rel => exact ⟨_, (true), (by first | rfl | (simp; done) | (simp [*]; done)), H', ⟨by have := HK1.out; have := HK2.out; first | omega | exact Nat.le_refl _⟩, ⟨by (with_reducible repeat (first | apply Kd.R_alloc | apply Kd.R_drewN | apply Kd.R_drew)); exact HO_5.out⟩, ⟨by repeat (first | (with_reducible first | exact HB.out | apply below_alloc | apply pw_below_drewN | apply below_drew1) | exact HB.out)⟩⟩
           ·rw [if_neg c8] at H
            exact absurd H (by simp)
          ·rw [if_neg c7] at H
           exact absurd H (by simp)
         ·rw [if_neg c6] at H
          exact absurd H (by simp)
        case rest =>
         clear HC5
         try clear c1
         try clear p1
         try clear q1
         try clear hx1
         try clear p2
         try clear c6
         try clear c7
         try clear c8
         try clear c9
         try clear c9b0
         try clear c9b1
         try clear c10
         try clear c10b0
         try clear p13
         try clear q13
         try clear hx13
         try clear hx137_0
         try clear hx138_0
         try clear p137
         try clear p138
         try clear q137
         try clear q138
         obtain ⟨kq, x50_4, rfl, HA, HJ4, HO_5, HB⟩ := hcut
         cases kq with
         | zero => exact absurd HA.out (by simp [redlineref08_Runs.j2])
         | succ kj4 =>
          have H := HA.out
          clear HA
          simp only [redlineref08_Runs.j2] at H
          by_cases c22 : x50_4 = true
          ·subst c22
           have H1 : (redlineref08_Runs.l1 kj4 l0 l1 x5_2 x6_1 (wrap64 (x7_2 + 1))) = some r := by rw [if_pos rfl] at H; exact H
           clear H
           have H := H1
           clear H1
           have H' := Aside0.mk H
           clear H
           go_wp2
           go_roundg kj4
           case measure => have := HK1.out; have := HK2.out; have := HJ4.out; omega
           case rel => exact ⟨(x5_2), (wrap64 (x7_2 + 1)), (by first | rfl | (simp; done) | (simp [*]; done)), H', ⟨by have := HK1.out; have := HK2.out; have := HJ4.out; omega⟩, ⟨by (with_reducible repeat (first | apply Kd.R_alloc | apply Kd.R_drewN | apply Kd.R_drew)); exact HO_5.out⟩, ⟨by repeat (first | (with_reducible first | exact HB.out | apply below_alloc | apply pw_below_drewN | apply below_drew1) | exact HB.out)⟩⟩
          ·replace c22 := Bool.eq_false_iff.mpr c22
           subst c22
           have H1 : (redlineref08_Runs.l2 kj4 l0 l1 x5_2 x6_1 x7_2 x6_1 x7_2 0 (l0.length : Int)) = some r := by rw [if_neg (show ¬ (false = true) by decide)] at H; exact H
           clear H
           have H := H1
           clear H1
           have H' := Aside0.mk H
           clear H
           go_wp2_with (first | ((with_reducible refine gate_dst (N := 8) rfl ?_); (try (refine gate_guard (by rfl) ?_; dsimp only)); refine box_event ?hg (N := 8) ?hd (cs := #[.int .i64 0, .int .i64 0, .int .i64 0, .int .i64 0]) (t := 30) ?hr ?_; (case hd => rfl); (case hg => rfl); (case hr => first | (go_simp; done) | (go_simp; rfl)); intro gb141 hg w23 hbox hb; have n0_ := Aside0.mk (Kd.R_below (Kd.R_elderB (by (with_reducible repeat (first | apply Kd.R_alloc | apply Kd.R_drewN | apply Kd.R_drew)); exact HO_5.out) gb141 (Nat.le_of_eq hg.symm)) hb); have n1_ := Aside0.mk (below_step (by repeat (first | (with_reducible first | exact HB.out | apply below_alloc | apply pw_below_drewN | apply below_drew1) | exact HB.out)) hb); have n2_ := Aside0.mk (hbox); have n3_ := Aside0.mk ((by rw [hg]; exact (below_size (by repeat (first | (with_reducible first | exact HB.out | apply below_alloc | apply pw_below_drewN | apply below_drew1) | exact HB.out))) : w.heap.size ≤ gb141)); have n4_ := Aside0.mk ((by rw [hg]; exact (below_size (by repeat (first | (with_reducible first | exact HB.out | apply below_alloc | apply pw_below_drewN | apply below_drew1) | exact HB.out))) : w.heap.size ≤ gb141)); clear HO_5; clear HB; have HO_5 := n0_; have HB := n1_; have BK141 := n2_; have GW141 := n3_; have GE141 := n4_; clear n0_ n1_ n2_ n3_ n4_; clear hb hbox hg; have hcz24_0 : w23.cell? ⟨gb141, 0, none⟩ = some (.int .i64 0) := (blk_cell BK141.out 0).trans rfl; have hcz24_1 : w23.cell? ⟨gb141, 1, none⟩ = some (.int .i64 0) := (blk_cell BK141.out 1).trans rfl; have hcz24_2 : w23.cell? ⟨gb141, 2, none⟩ = some (.int .i64 0) := (blk_cell BK141.out 2).trans rfl; have hcz24_3 : w23.cell? ⟨gb141, 3, none⟩ = some (.int .i64 0) := (blk_cell BK141.out 3).trans rfl; have hfz24_0 := blk_frozen BK141.out 0; have hfz24_1 := blk_frozen BK141.out 1; have hfz24_2 := blk_frozen BK141.out 2; have hfz24_3 := blk_frozen BK141.out 3))
           go_loopg [] kj4 (fun kq w' => ∃ (x142002_4 : Int) (x142003_4 : Int), Aside0 (redlineref08_Runs.l2 kq l0 l1 x5_2 x6_1 x7_2 x6_1 x7_2 x142002_4 x142003_4 = some r) ∧ Aside0 (kq ≤ kj4) ∧ Aside0 (Kd.R k30 30 w' w.heap.size (fun k_ => k_ ≠ gb141) u5 x5_2) ∧ Aside0 (w'.heap[gb141]? = some (.cells #[.int .i64 x6_1, .int .i64 x7_2, .int .i64 x142002_4, .int .i64 x142003_4] 30 (0, 0))) ∧ Aside0 (Below w.heap.size w w'))
           case atStart => exact ⟨(0), ((l0.length : Int)), H', ⟨Nat.le_refl _⟩, ⟨by (with_reducible repeat (first | apply Kd.R_alloc | apply Kd.R_drewN | apply Kd.R_drew)); exact Kd.R_mono (Kd.R_far (p := ⟨gb141, 3, none⟩) (Kd.R_far (p := ⟨gb141, 2, none⟩) (Kd.R_far (p := ⟨gb141, 1, none⟩) (Kd.R_far (p := ⟨gb141, 0, none⟩) (Kd.R_mono HO_5.out (fun k_ hk => (⟨hk, hk.2⟩ : _ ∧ k_ ≠ gb141))) (fun _ hk => hk.2) (.int .i64 x6_1)) (fun _ hk => hk.2) (.int .i64 x7_2)) (fun _ hk => hk.2) (.int .i64 0)) (fun _ hk => hk.2) (.int .i64 (l0.length : Int))) (fun _ hk => hk.1.2)⟩, ⟨by (with_reducible repeat (first | refine blk_drewN ?_ _ | refine blk_drew ?_ | refine blk_alloc ?_ _)); refine blk_put (cs := #[.int .i64 x6_1, .int .i64 x7_2, .int .i64 0, .int .i64 0]) ?_ 3 _ rfl; (with_reducible repeat (first | refine blk_drewN ?_ _ | refine blk_drew ?_ | refine blk_alloc ?_ _)); refine blk_put (cs := #[.int .i64 x6_1, .int .i64 x7_2, .int .i64 0, .int .i64 0]) ?_ 2 _ rfl; (with_reducible repeat (first | refine blk_drewN ?_ _ | refine blk_drew ?_ | refine blk_alloc ?_ _)); refine blk_put (cs := #[.int .i64 x6_1, .int .i64 0, .int .i64 0, .int .i64 0]) ?_ 1 _ rfl; (with_reducible repeat (first | refine blk_drewN ?_ _ | refine blk_drew ?_ | refine blk_alloc ?_ _)); refine blk_put (cs := #[.int .i64 0, .int .i64 0, .int .i64 0, .int .i64 0]) ?_ 0 _ rfl; (with_reducible repeat (first | refine blk_drewN ?_ _ | refine blk_drew ?_ | refine blk_alloc ?_ _)); exact BK141.out⟩, ⟨by repeat (first | (with_reducible first | exact HB.out | apply below_alloc | apply pw_below_drewN | apply below_drew1 | refine below_set ?_ GE141.out) | exact HB.out)⟩⟩
           case round =>
            clear H'
            try clear c1
            try clear p1
            try clear q1
            try clear hx1
            try clear c2
            try clear p2
            try clear c6
            try clear p6
            try clear c7
            try clear c8
            try clear c9
            try clear c9b0
            try clear c9b1
            try clear c10
            try clear c10b0
            try clear p13
            try clear q13
            try clear hx13
            try clear c22
            try clear hcz24_0
            try clear hcz24_1
            try clear hcz24_2
            try clear hcz24_3
            try clear hfz24_0
            try clear hfz24_1
            try clear hfz24_2
            try clear hfz24_3
            try clear hx137_0
            try clear hx138_0
            try clear p1
            try clear p13
            try clear p137
            try clear p138
            try clear p2
            try clear q1
            try clear q13
            try clear q137
            try clear q138
            obtain ⟨x142002_4, x142003_4, HA, HK4, HO_5, BK141, HB⟩ := hrel
            cases gk with
            | zero => exact absurd HA.out (by simp [redlineref08_Runs.l2])
            | succ k4 =>
             have H := HA.out
             clear HA
             simp only [redlineref08_Runs.l2] at H
             by_cases c25 : (wrap64 (x6_1 + x142002_4)) < (l0.length : Int)
             ·rw [if_pos c25] at H
              have c25b0 : decide ((wrap64 (x6_1 + x142002_4)) < (l0.length : Int)) = true := decide_eq_true c25
              clear c25
              by_cases c26 : (wrap64 (x7_2 + x142002_4)) < (l1.length : Int)
              ·rw [if_pos c26] at H
               have c26b0 : decide ((wrap64 (x7_2 + x142002_4)) < (l1.length : Int)) = true := decide_eq_true c26
               clear c26
               obtain ⟨ji27, hji27⟩ : ∃ j_ : Int, (wrap64 (x6_1 + x142002_4)) = j_ := ⟨_, rfl⟩
               replace H : (if 0 ≤ (ji27) then (if 0 ≤ (wrap64 (x7_2 + x142002_4)) then (if (rd l0 (ji27)) = (rd l1 (wrap64 (x7_2 + x142002_4))) then ((redlineref08_times.f k4 l0 (rd l0 (ji27))).bind fun t145 => (redlineref08_Runs.l2 k4 l0 l1 x5_2 x6_1 x7_2 x6_1 x7_2 (wrap64 (x142002_4 + 1)) (mn x142003_4 t145))) else (if x5_2.length < 4398046511104 then (redlineref08_Runs.l1 k4 l0 l1 (x5_2 ++ [(⟨x6_1, x7_2, x142002_4, x142003_4⟩ : S30)]) x6_1 (wrap64 (x7_2 + 1))) else (none))) else (none)) else (none)) = some r := by first | (rw [hji27] at H; exact H) | (simp only [hji27] at H ⊢; exact H)
               (try rw [hji27] at c25b0)
               have hji27w : (IntKind.i64.wrap (x6_1 + x142002_4)) = ji27 := (i64_w _).trans hji27
               by_cases c28 : 0 ≤ (ji27)
               ·rw [if_pos c28] at H
                have c28b0 : decide (0 ≤ (ji27)) = true := decide_eq_true c28
                clear c28
                obtain ⟨ji29, hji29⟩ : ∃ j_ : Int, (wrap64 (x7_2 + x142002_4)) = j_ := ⟨_, rfl⟩
                replace H : (if 0 ≤ (ji29) then (if (rd l0 (ji27)) = (rd l1 (ji29)) then ((redlineref08_times.f k4 l0 (rd l0 (ji27))).bind fun t145 => (redlineref08_Runs.l2 k4 l0 l1 x5_2 x6_1 x7_2 x6_1 x7_2 (wrap64 (x142002_4 + 1)) (mn x142003_4 t145))) else (if x5_2.length < 4398046511104 then (redlineref08_Runs.l1 k4 l0 l1 (x5_2 ++ [(⟨x6_1, x7_2, x142002_4, x142003_4⟩ : S30)]) x6_1 (wrap64 (x7_2 + 1))) else (none))) else (none)) = some r := by first | (rw [hji29] at H; exact H) | (simp only [hji29] at H ⊢; exact H)
                (try rw [hji29] at c26b0)
                have hji29w : (IntKind.i64.wrap (x7_2 + x142002_4)) = ji29 := (i64_w _).trans hji29
                by_cases c30 : 0 ≤ (ji29)
                ·rw [if_pos c30] at H
                 have c30b0 : decide (0 ≤ (ji29)) = true := decide_eq_true c30
                 clear c30
                 by_cases c31 : (rd l0 (ji27)) = (rd l1 (ji29))
                 ·rw [if_pos c31] at H
                  have c31b0 : ((rd l0 (ji27)) == (rd l1 (ji29))) = true := beq_iff_eq.mpr c31
                  have c31b1 : ((rd l0 (ji27)) != (rd l1 (ji29))) = false := bne_eq_false_iff_eq.mpr c31
                  clear c31
                  replace H := Option.bind_eq_some_iff.mp H
                  obtain ⟨t145, A320, H⟩ := H
                  replace H : (redlineref08_Runs.l2 k4 l0 l1 x5_2 x6_1 x7_2 x6_1 x7_2 (wrap64 (x142002_4 + 1)) (mn x142003_4 t145)) = some r := H
                  have A32 := Aside0.mk A320
                  clear A320
                  obtain ⟨ji33, hji33⟩ : ∃ j_ : Int, (mn x142003_4 t145) = j_ := ⟨_, rfl⟩
                  replace H : (redlineref08_Runs.l2 k4 l0 l1 x5_2 x6_1 x7_2 x6_1 x7_2 (wrap64 (x142002_4 + 1)) ji33) = some r := by first | (rw [hji33] at H; exact H) | (simp only [hji33] at H ⊢; exact H)
                  (try rw [hji33] at A32)
                  have hji33_ : (if t145 < x142003_4 then t145 else x142003_4) = ji33 := hji33
                  have H' := Aside0.mk H
                  clear H
                  try go_wp2
                  have n0_ := Aside0.mk (Kd.R_drew HO_5.out)
                  have n1_ := Aside0.mk (blk_drew BK141.out)
                  have n2_ := Aside0.mk (below_drew1 HB.out)
                  clear HO_5
                  clear BK141
                  clear HB
                  have HO_5 := n0_
                  have BK141 := n1_
                  have HB := n2_
                  clear n0_ n1_ n2_
                  have p142 : 0 ≤ ((ji27) : Int) := of_decide_eq_true (by first | (with_reducible assumption) | assumption)
                  have q142 : (ji27) < (l0.length : Int) := of_decide_eq_true (by first | (with_reducible assumption) | assumption)
                  obtain ⟨ad142, e142, hx142_0⟩ := Kd.at_int HR0.out (ji27) p142 q142
                  have hw142_0 := hx142_0
                  cases e142
                  replace hx142_0 := (HB.out.cell (World.block_lt_of_cell? w _ hx142_0)).trans hx142_0
                  replace p142 := eq_true p142
                  replace q142 := eq_true q142
                  have p143 : 0 ≤ ((ji29) : Int) := of_decide_eq_true (by first | (with_reducible assumption) | assumption)
                  have q143 : (ji29) < (l1.length : Int) := of_decide_eq_true (by first | (with_reducible assumption) | assumption)
                  obtain ⟨ad143, e143, hx143_0⟩ := Kd.at_int HR1.out (ji29) p143 q143
                  have hw143_0 := hx143_0
                  cases e143
                  replace hx143_0 := (HB.out.cell (World.block_lt_of_cell? w _ hx143_0)).trans hx143_0
                  replace p143 := eq_true p143
                  replace q143 := eq_true q143
                  refine start_ (n := 33) (S := fun w' => w'.cell? ⟨gb141, 0, none⟩ = some (.int .i64 x6_1) ∧ w'.cell? ⟨gb141, 1, none⟩ = some (.int .i64 x7_2) ∧ w'.cell? ⟨gb141, 2, none⟩ = some (.int .i64 x142002_4) ∧ w'.cell? ⟨gb141, 3, none⟩ = some (.int .i64 x142003_4) ∧ w'.cell? (ad142.add ((ji27)).toNat) = some (.int .i64 (rd l0 (ji27))) ∧ w'.cell? (ad143.add ((ji29)).toNat) = some (.int .i64 (rd l1 (ji29)))) (ds := []) #[false, false, false, false, false, false, false, false, false, false, false, false, false, false, false, false, false, false, false, false, false, false, false, false, false, false, false, false, false, false, false, false, false] (by kernel_rfl) rfl rfl ⟨(blk_cell BK141.out 0).trans rfl, (blk_cell BK141.out 1).trans rfl, (blk_cell BK141.out 2).trans rfl, (blk_cell BK141.out 3).trans rfl, ((HB.out.cell (World.block_lt_of_cell? w _ hw142_0)).trans hw142_0), ((HB.out.cell (World.block_lt_of_cell? w _ hw143_0)).trans hw143_0)⟩ (fun hHeld => ?_); refine with_tabW redlineref08_Runs.tab10 redlineref08_Runs.bits10 (fun HT_ HW_ => ?_)
                  generalize wr.drew = w34 at HO_5 BK141 HB hx142_0 hx143_0 hHeld ⊢
                  refine pw_ 0 56 (ar 33 1) HT_.out ?_
                  refine pw_ 1 57 (ar 33 2) HT_.out ?_
                  refine pw_ 4 60 #[true, true, false, false, true, false, false, false, false, false, false, false, false, false, false, false, false, false, false, false, false, false, false, false, false, false, false, false, false, false, false, false, false] HT_.out ?_
                  refine pw_ 5 61 #[true, true, false, false, true, true, false, false, false, false, false, false, false, false, false, false, false, false, false, false, false, false, false, false, false, false, false, false, false, false, false, false, false] HT_.out ?_
                  refine take_ (i := 2) (N := some 58) (v := ?_) (a' := ?_) #[true, true, true, false, true, true, false, false, false, false, false, false, false, false, false, false, false, false, false, false, false, false, false, false, false, false, false, false, false, false, false, false, false] rfl rfl (take_ofW HT_.out HW_.out (by kernel_rfl)) (fun _ _ _ h => h) (Or.inl ⟨by rfl, ?_⟩) hHeld ?_ ?_
                  rotate_left
                  ·rintro w' ⟨s0, s1, s2, s3, s4, s5⟩
                   go_simp
                   with_reducible rfl
                  rotate_left
                  ·simp only [Act.put, List.setIfInBounds_toArray, List.set_cons_zero, List.set_cons_succ, i64_w, i32_w]
                   rfl
                  refine pw_ 3 59 (ar 33 6) HT_.out ?_
                  refine pw_ 6 62 (ar 33 7) HT_.out ?_
                  refine pw_ 7 63 (ar 33 8) HT_.out ?_
                  refine pw_ 8 64 (ar 33 9) HT_.out ?_
                  refine pw_ 9 65 (ar 33 10) HT_.out ?_
                  refine pw_ 12 68 #[true, true, true, true, true, true, true, true, true, true, false, false, true, false, false, false, false, false, false, false, false, false, false, false, false, false, false, false, false, false, false, false, false] HT_.out ?_
                  refine pw_ 13 69 #[true, true, true, true, true, true, true, true, true, true, false, false, true, true, false, false, false, false, false, false, false, false, false, false, false, false, false, false, false, false, false, false, false] HT_.out ?_
                  refine take_ (i := 10) (N := some 66) (v := ?_) (a' := ?_) #[true, true, true, true, true, true, true, true, true, true, true, false, true, true, false, false, false, false, false, false, false, false, false, false, false, false, false, false, false, false, false, false, false] rfl rfl (take_ofW HT_.out HW_.out (by kernel_rfl)) (fun _ _ _ h => h) (Or.inl ⟨by rfl, ?_⟩) hHeld ?_ ?_
                  rotate_left
                  ·rintro w' ⟨s0, s1, s2, s3, s4, s5⟩
                   go_simp
                   with_reducible rfl
                  rotate_left
                  ·simp only [Act.put, List.setIfInBounds_toArray, List.set_cons_zero, List.set_cons_succ, i64_w, i32_w]
                   rfl
                  refine pw_ 11 67 (ar 33 14) HT_.out ?_
                  refine pw_ 14 70 (ar 33 15) HT_.out ?_
                  refine pw_ 15 71 (ar 33 16) HT_.out ?_
                  refine pw_ 16 72 (ar 33 17) HT_.out ?_
                  refine pw_ 17 73 (ar 33 18) HT_.out ?_
                  refine pw_ 18 74 (ar 33 19) HT_.out ?_
                  refine pw_ 19 75 (ar 33 20) HT_.out ?_
                  refine pw_ 24 80 #[true, true, true, true, true, true, true, true, true, true, true, true, true, true, true, true, true, true, true, true, false, false, false, false, true, false, false, false, false, false, false, false, false] HT_.out ?_
                  refine pw_ 25 81 #[true, true, true, true, true, true, true, true, true, true, true, true, true, true, true, true, true, true, true, true, false, false, false, false, true, true, false, false, false, false, false, false, false] HT_.out ?_
                  refine pw_ 26 82 #[true, true, true, true, true, true, true, true, true, true, true, true, true, true, true, true, true, true, true, true, false, false, false, false, true, true, true, false, false, false, false, false, false] HT_.out ?_
                  refine take_ (i := 20) (N := some 76) (v := ?_) (a' := ?_) #[true, true, true, true, true, true, true, true, true, true, true, true, true, true, true, true, true, true, true, true, true, false, false, false, true, true, true, false, false, false, false, false, false] rfl rfl (take_ofW HT_.out HW_.out (by kernel_rfl)) (fun _ _ _ h => h) (Or.inl ⟨by rfl, ?_⟩) hHeld ?_ ?_
                  rotate_left
                  ·rintro w' ⟨s0, s1, s2, s3, s4, s5⟩
                   go_simp
                   with_reducible rfl
                  rotate_left
                  ·simp only [Act.put, List.setIfInBounds_toArray, List.set_cons_zero, List.set_cons_succ, i64_w, i32_w]
                   rfl
                  refine pw_ 21 77 #[true, true, true, true, true, true, true, true, true, true, true, true, true, true, true, true, true, true, true, true, true, true, false, false, true, true, true, false, false, false, false, false, false] HT_.out ?_
                  refine pw_ 22 78 #[true, true, true, true, true, true, true, true, true, true, true, true, true, true, true, true, true, true, true, true, true, true, true, false, true, true, true, false, false, false, false, false, false] HT_.out ?_
                  refine take_ (i := 23) (N := some 79) (v := ?_) (a' := ?_) (ar 33 27) rfl rfl (take_ofW HT_.out HW_.out (by kernel_rfl)) (fun _ _ _ h => h) (Or.inl ⟨by rfl, ?_⟩) hHeld ?_ ?_
                  rotate_left
                  ·rintro w' ⟨s0, s1, s2, s3, s4, s5⟩
                   go_simp
                   with_reducible rfl
                  rotate_left
                  ·simp only [Act.put, List.setIfInBounds_toArray, List.set_cons_zero, List.set_cons_succ, i64_w, i32_w]
                   rfl
                  refine take_ (i := 27) (N := some 83) (v := ?_) (a' := ?_) (ar 33 28) rfl rfl (take_ofW HT_.out HW_.out (by kernel_rfl)) (fun _ _ _ h => h) (Or.inl ⟨by rfl, ?_⟩) hHeld ?_ ?_
                  rotate_left
                  ·rintro w' ⟨s0, s1, s2, s3, s4, s5⟩
                   go_simp
                   with_reducible rfl
                  rotate_left
                  ·simp only [Act.put, List.setIfInBounds_toArray, List.set_cons_zero, List.set_cons_succ, i64_w, i32_w]
                   rfl
                  refine pw_ 28 84 (ar 33 29) HT_.out ?_
                  refine pw_ 29 85 (ar 33 30) HT_.out ?_
                  refine take_ (i := 30) (N := some 86) (v := ?_) (a' := ?_) (ar 33 31) rfl rfl (take_ofW HT_.out HW_.out (by kernel_rfl)) (fun _ _ _ h => h) (Or.inl ⟨by rfl, ?_⟩) hHeld ?_ ?_
                  rotate_left
                  ·rintro w' ⟨s0, s1, s2, s3, s4, s5⟩
                   go_simp
                   with_reducible rfl
                  rotate_left
                  ·simp only [Act.put, List.setIfInBounds_toArray, List.set_cons_zero, List.set_cons_succ, i64_w, i32_w]
                   rfl
                  refine pw_ 31 87 (ar 33 32) HT_.out ?_
                  refine pw_ 32 88 (ar 33 33) HT_.out ?_
                  refine done_ (done_of HT_.out (by kernel_rfl)) ?_
                  try go_wp2
                  have n0_ := Aside0.mk (Kd.R_drew HO_5.out)
                  have n1_ := Aside0.mk (blk_drew BK141.out)
                  have n2_ := Aside0.mk (below_drew1 HB.out)
                  clear HO_5
                  clear BK141
                  clear HB
                  have HO_5 := n0_
                  have BK141 := n1_
                  have HB := n2_
                  clear n0_ n1_ n2_
                  have p144 : 0 ≤ ((ji27) : Int) := of_decide_eq_true (by first | (with_reducible assumption) | assumption)
                  have q144 : (ji27) < (l0.length : Int) := of_decide_eq_true (by first | (with_reducible assumption) | assumption)
                  obtain ⟨ad144, e144, hx144_0⟩ := Kd.at_int HR0.out (ji27) p144 q144
                  have hw144_0 := hx144_0
                  obtain rfl : ad142 = ad144 := (by injection e144)
                  replace hx144_0 := (HB.out.cell (World.block_lt_of_cell? w _ hx144_0)).trans hx144_0
                  replace p144 := eq_true p144
                  replace q144 := eq_true q144
                  refine start_ (n := 14) (S := fun w' => w'.cell? ⟨gb141, 0, none⟩ = some (.int .i64 x6_1) ∧ w'.cell? ⟨gb141, 1, none⟩ = some (.int .i64 x7_2) ∧ w'.cell? ⟨gb141, 2, none⟩ = some (.int .i64 x142002_4) ∧ w'.cell? ⟨gb141, 3, none⟩ = some (.int .i64 x142003_4) ∧ w'.cell? (ad142.add ((ji27)).toNat) = some (.int .i64 (rd l0 (ji27)))) (ds := [13]) #[false, false, false, false, false, false, false, false, false, false, false, false, false, false] (by kernel_rfl) rfl rfl ⟨(blk_cell BK141.out 0).trans rfl, (blk_cell BK141.out 1).trans rfl, (blk_cell BK141.out 2).trans rfl, (blk_cell BK141.out 3).trans rfl, ((HB.out.cell (World.block_lt_of_cell? w _ hw144_0)).trans hw144_0)⟩ (fun hHeld => ?_); refine with_tabW redlineref08_Runs.tab11 redlineref08_Runs.bits11 (fun HT_ HW_ => ?_)
                  generalize w34.drew = w35 at HO_5 BK141 HB hx144_0 hHeld ⊢
                  refine pw_ 0 89 (ar 14 1) HT_.out ?_
                  refine pw_ 2 91 #[true, false, true, false, false, false, false, false, false, false, false, false, false, false] HT_.out ?_
                  refine pw_ 3 92 #[true, false, true, true, false, false, false, false, false, false, false, false, false, false] HT_.out ?_
                  refine pw_ 4 93 #[true, false, true, true, true, false, false, false, false, false, false, false, false, false] HT_.out ?_
                  refine pw_ 5 94 #[true, false, true, true, true, true, false, false, false, false, false, false, false, false] HT_.out ?_
                  refine take_ (i := 1) (N := some 90) (v := ?_) (a' := ?_) (ar 14 6) rfl rfl (take_ofW HT_.out HW_.out (by kernel_rfl)) (fun _ _ _ h => h) (Or.inl ⟨by rfl, ?_⟩) hHeld ?_ ?_
                  rotate_left
                  ·rintro w' ⟨s0, s1, s2, s3, s4⟩
                   go_simp
                   with_reducible rfl
                  rotate_left
                  ·simp only [Act.put, List.setIfInBounds_toArray, List.set_cons_zero, List.set_cons_succ, i64_w, i32_w]
                   rfl
                  refine take_ (i := 6) (N := some 95) (v := ?_) (a' := ?_) (ar 14 7) rfl rfl (take_ofW HT_.out HW_.out (by kernel_rfl)) (fun _ _ _ h => h) (Or.inl ⟨by rfl, ?_⟩) hHeld ?_ ?_
                  rotate_left
                  ·rintro w' ⟨s0, s1, s2, s3, s4⟩
                   go_simp
                   with_reducible rfl
                  rotate_left
                  ·simp only [Act.put, List.setIfInBounds_toArray, List.set_cons_zero, List.set_cons_succ, i64_w, i32_w]
                   rfl
                  refine pw_ 7 96 (ar 14 8) HT_.out ?_
                  refine pw_ 8 97 (ar 14 9) HT_.out ?_
                  refine take_ (i := 9) (N := some 98) (v := ?_) (a' := ?_) (ar 14 10) rfl rfl (take_ofW HT_.out HW_.out (by kernel_rfl)) (fun _ _ _ h => h) (Or.inl ⟨by rfl, ?_⟩) hHeld ?_ ?_
                  rotate_left
                  ·rintro w' ⟨s0, s1, s2, s3, s4⟩
                   go_simp
                   with_reducible rfl
                  rotate_left
                  ·simp only [Act.put, List.setIfInBounds_toArray, List.set_cons_zero, List.set_cons_succ, i64_w, i32_w]
                   rfl
                  refine one_ (i := 10) (N := some 99) (ar 14 11) rfl rfl (one_of HT_.out (by kernel_rfl)) (by decide) (fun K hK => ?_)
                  refine goes_ Try.func52 (by kernel_rfl) rfl #[.slice (some ad142) l0.length c0, .int .i64 (rd l0 (ji27))] (by rfl) rfl rfl (by (try simp only [List.map_toArray, List.map_cons, List.map_nil]); first | done | (simp only [hji27]; rfl) | rfl | (simp only [List.length_drop, List.length_take]; rfl)) ?_
                  with_reducible refine (redlineref08_times.calls k4 _ _ l0 (rd l0 (ji27)) t145 _ ?side1 ?side2 A32.out).mono ?_
                  (case side1 => repeat (first | exact (Kd.C_below HR0.out HB.out) | (with_reducible refine Kd.C_alloc ?_ _) | (with_reducible refine Kd.C_drewN ?_ _) | (with_reducible refine Kd.C_drew ?_)))
                  (case side2 => exact HC0.out)
                  rintro e w' ⟨rfl, ⟨nd, rfl⟩⟩
                  refine ⟨_, rfl, ?_⟩
                  refine hK.out _ _ ⟨(blk_cell BK141.out 0).trans rfl, (blk_cell BK141.out 1).trans rfl, (blk_cell BK141.out 2).trans rfl, (blk_cell BK141.out 3).trans rfl, ((HB.out.cell (World.block_lt_of_cell? w _ hw144_0)).trans hw144_0)⟩ (fun hHeld => ?_)
                  clear hK K
                  refine norm_ (a' := ?_) ?_ ?_
                  rotate_left
                  ·show Act.put _ (some 99) _ = _
                   simp only [Act.put, List.setIfInBounds_toArray, List.set_cons_zero, List.set_cons_succ, i64_w, i32_w]
                   rfl
                  refine pw_ 11 100 (ar 14 12) HT_.out ?_
                  refine pw_ 12 101 (ar 14 13) HT_.out ?_
                  refine last_ (i := 13) (N := none) (ar 14 14) rfl rfl (one_of HT_.out (by kernel_rfl)) (by decide) (fun K hK => ?_)
                  have hs36 : w35.cell? ⟨gb141, 3, none⟩ = some (.int .i64 x142003_4) := (blk_cell BK141.out 3).trans rfl
                  have hfs36 := blk_frozen BK141.out 3
                  refine skip_ (w1 := ?_) (by rfl) rfl ?_ ?_
                  rotate_left
                  ·go_simp
                   rfl
                  refine hK.out _ _ ?_
                  clear hK K
                  refine done_ (done_of HT_.out (by kernel_rfl)) ?_
                  have hcz37_0 : w35.cell? ⟨gb141, 0, none⟩ = some (.int .i64 x6_1) := (blk_cell BK141.out 0).trans rfl
                  have hcz37_1 : w35.cell? ⟨gb141, 1, none⟩ = some (.int .i64 x7_2) := (blk_cell BK141.out 1).trans rfl
                  have hcz37_2 : w35.cell? ⟨gb141, 2, none⟩ = some (.int .i64 x142002_4) := (blk_cell BK141.out 2).trans rfl
                  have hcz37_3 : w35.cell? ⟨gb141, 3, none⟩ = some (.int .i64 x142003_4) := (blk_cell BK141.out 3).trans rfl
                  have hfz37_0 := blk_frozen BK141.out 0
                  have hfz37_1 := blk_frozen BK141.out 1
                  have hfz37_2 := blk_frozen BK141.out 2
                  have hfz37_3 := blk_frozen BK141.out 3
                  try go_wp2
                  go_roundg k4
                  case measure => have := HK1.out; have := HK2.out; have := HJ4.out; have := HK4.out; omega
                  case rel => exact ⟨(wrap64 (x142002_4 + 1)), (ji33), H', ⟨by have := HK1.out; have := HK2.out; have := HJ4.out; have := HK4.out; omega⟩, ⟨by (with_reducible repeat (first | apply Kd.R_alloc | apply Kd.R_drewN | apply Kd.R_drew)); exact Kd.R_mono (Kd.R_far (p := ⟨gb141, 2, none⟩) (Kd.R_far (p := ⟨gb141, 3, none⟩) (Kd.R_mono HO_5.out (fun k_ hk => (⟨hk, hk⟩ : _ ∧ k_ ≠ gb141))) (fun _ hk => hk.2) (.int .i64 ji33)) (fun _ hk => hk.2) (.int .i64 (wrap64 (x142002_4 + 1)))) (fun _ hk => hk.1)⟩, ⟨by (with_reducible repeat (first | refine blk_drewN ?_ _ | refine blk_drew ?_ | refine blk_alloc ?_ _)); refine blk_put (cs := #[.int .i64 x6_1, .int .i64 x7_2, .int .i64 x142002_4, .int .i64 ji33]) ?_ 2 _ rfl; (with_reducible repeat (first | refine blk_drewN ?_ _ | refine blk_drew ?_ | refine blk_alloc ?_ _)); refine blk_put (cs := #[.int .i64 x6_1, .int .i64 x7_2, .int .i64 x142002_4, .int .i64 x142003_4]) ?_ 3 _ rfl; (with_reducible repeat (first | refine blk_drewN ?_ _ | refine blk_drew ?_ | refine blk_alloc ?_ _)); exact BK141.out⟩, ⟨by repeat (first | (with_reducible first | exact HB.out | apply below_alloc | apply pw_below_drewN | apply below_drew1 | refine below_set ?_ GE141.out) | exact HB.out)⟩⟩
                 ·rw [if_neg c31] at H
                  have c31b0 : ((rd l0 (ji27)) == (rd l1 (ji29))) = false := beq_eq_false_iff_ne.mpr c31
                  have c31b1 : ((rd l0 (ji27)) != (rd l1 (ji29))) = true := bne_iff_ne.mpr c31
                  by_cases c38 : x5_2.length < 4398046511104
                  ·rw [if_pos c38] at H
                   have LMc38 := Aside0.mk c38
                   clear c38
                   obtain ⟨y146, hy146⟩ : ∃ y_ : List (S30), y_ = (x5_2 ++ [(⟨x6_1, x7_2, x142002_4, x142003_4⟩ : S30)]) := ⟨_, rfl⟩
                   replace H : (redlineref08_Runs.l1 k4 l0 l1 y146 x6_1 (wrap64 (x7_2 + 1))) = some r := by first | (rw [hy146]; with_reducible exact H) | (have H2_ := (Option.bind_some _ _).symm.trans H; rw [hy146]; with_reducible exact H2_) | (have H2_ := (Option.bind_some _ _).symm.trans H; with_reducible exact H2_) | with_reducible exact H | (rw [hy146]; exact H) | exact H
                   have Ny146 := Aside0.mk hy146
                   clear hy146
                   have H' := Aside0.mk H
                   clear H
                   try go_wp2
                   have n0_ := Aside0.mk (Kd.R_drew HO_5.out)
                   have n1_ := Aside0.mk (blk_drew BK141.out)
                   have n2_ := Aside0.mk (below_drew1 HB.out)
                   clear HO_5
                   clear BK141
                   clear HB
                   have HO_5 := n0_
                   have BK141 := n1_
                   have HB := n2_
                   clear n0_ n1_ n2_
                   have p142 : 0 ≤ ((ji27) : Int) := of_decide_eq_true (by first | (with_reducible assumption) | assumption)
                   have q142 : (ji27) < (l0.length : Int) := of_decide_eq_true (by first | (with_reducible assumption) | assumption)
                   obtain ⟨ad142, e142, hx142_0⟩ := Kd.at_int HR0.out (ji27) p142 q142
                   have hw142_0 := hx142_0
                   cases e142
                   replace hx142_0 := (HB.out.cell (World.block_lt_of_cell? w _ hx142_0)).trans hx142_0
                   replace p142 := eq_true p142
                   replace q142 := eq_true q142
                   have p143 : 0 ≤ ((ji29) : Int) := of_decide_eq_true (by first | (with_reducible assumption) | assumption)
                   have q143 : (ji29) < (l1.length : Int) := of_decide_eq_true (by first | (with_reducible assumption) | assumption)
                   obtain ⟨ad143, e143, hx143_0⟩ := Kd.at_int HR1.out (ji29) p143 q143
                   have hw143_0 := hx143_0
                   cases e143
                   replace hx143_0 := (HB.out.cell (World.block_lt_of_cell? w _ hx143_0)).trans hx143_0
                   replace p143 := eq_true p143
                   replace q143 := eq_true q143
                   refine start_ (n := 33) (S := fun w' => w'.cell? ⟨gb141, 0, none⟩ = some (.int .i64 x6_1) ∧ w'.cell? ⟨gb141, 1, none⟩ = some (.int .i64 x7_2) ∧ w'.cell? ⟨gb141, 2, none⟩ = some (.int .i64 x142002_4) ∧ w'.cell? ⟨gb141, 3, none⟩ = some (.int .i64 x142003_4) ∧ w'.cell? (ad142.add ((ji27)).toNat) = some (.int .i64 (rd l0 (ji27))) ∧ w'.cell? (ad143.add ((ji29)).toNat) = some (.int .i64 (rd l1 (ji29)))) (ds := []) #[false, false, false, false, false, false, false, false, false, false, false, false, false, false, false, false, false, false, false, false, false, false, false, false, false, false, false, false, false, false, false, false, false] (by kernel_rfl) rfl rfl ⟨(blk_cell BK141.out 0).trans rfl, (blk_cell BK141.out 1).trans rfl, (blk_cell BK141.out 2).trans rfl, (blk_cell BK141.out 3).trans rfl, ((HB.out.cell (World.block_lt_of_cell? w _ hw142_0)).trans hw142_0), ((HB.out.cell (World.block_lt_of_cell? w _ hw143_0)).trans hw143_0)⟩ (fun hHeld => ?_); refine with_tabW redlineref08_Runs.tab10 redlineref08_Runs.bits10 (fun HT_ HW_ => ?_)
                   generalize wr.drew = w39 at HO_5 BK141 HB hx142_0 hx143_0 hHeld ⊢
                   refine pw_ 0 56 (ar 33 1) HT_.out ?_
                   refine pw_ 1 57 (ar 33 2) HT_.out ?_
                   refine pw_ 4 60 #[true, true, false, false, true, false, false, false, false, false, false, false, false, false, false, false, false, false, false, false, false, false, false, false, false, false, false, false, false, false, false, false, false] HT_.out ?_
                   refine pw_ 5 61 #[true, true, false, false, true, true, false, false, false, false, false, false, false, false, false, false, false, false, false, false, false, false, false, false, false, false, false, false, false, false, false, false, false] HT_.out ?_
                   refine take_ (i := 2) (N := some 58) (v := ?_) (a' := ?_) #[true, true, true, false, true, true, false, false, false, false, false, false, false, false, false, false, false, false, false, false, false, false, false, false, false, false, false, false, false, false, false, false, false] rfl rfl (take_ofW HT_.out HW_.out (by kernel_rfl)) (fun _ _ _ h => h) (Or.inl ⟨by rfl, ?_⟩) hHeld ?_ ?_
                   rotate_left
                   ·rintro w' ⟨s0, s1, s2, s3, s4, s5⟩
                    go_simp
                    with_reducible rfl
                   rotate_left
                   ·simp only [Act.put, List.setIfInBounds_toArray, List.set_cons_zero, List.set_cons_succ, i64_w, i32_w]
                    rfl
                   refine pw_ 3 59 (ar 33 6) HT_.out ?_
                   refine pw_ 6 62 (ar 33 7) HT_.out ?_
                   refine pw_ 7 63 (ar 33 8) HT_.out ?_
                   refine pw_ 8 64 (ar 33 9) HT_.out ?_
                   refine pw_ 9 65 (ar 33 10) HT_.out ?_
                   refine pw_ 12 68 #[true, true, true, true, true, true, true, true, true, true, false, false, true, false, false, false, false, false, false, false, false, false, false, false, false, false, false, false, false, false, false, false, false] HT_.out ?_
                   refine pw_ 13 69 #[true, true, true, true, true, true, true, true, true, true, false, false, true, true, false, false, false, false, false, false, false, false, false, false, false, false, false, false, false, false, false, false, false] HT_.out ?_
                   refine take_ (i := 10) (N := some 66) (v := ?_) (a' := ?_) #[true, true, true, true, true, true, true, true, true, true, true, false, true, true, false, false, false, false, false, false, false, false, false, false, false, false, false, false, false, false, false, false, false] rfl rfl (take_ofW HT_.out HW_.out (by kernel_rfl)) (fun _ _ _ h => h) (Or.inl ⟨by rfl, ?_⟩) hHeld ?_ ?_
                   rotate_left
                   ·rintro w' ⟨s0, s1, s2, s3, s4, s5⟩
                    go_simp
                    with_reducible rfl
                   rotate_left
                   ·simp only [Act.put, List.setIfInBounds_toArray, List.set_cons_zero, List.set_cons_succ, i64_w, i32_w]
                    rfl
                   refine pw_ 11 67 (ar 33 14) HT_.out ?_
                   refine pw_ 14 70 (ar 33 15) HT_.out ?_
                   refine pw_ 15 71 (ar 33 16) HT_.out ?_
                   refine pw_ 16 72 (ar 33 17) HT_.out ?_
                   refine pw_ 17 73 (ar 33 18) HT_.out ?_
                   refine pw_ 18 74 (ar 33 19) HT_.out ?_
                   refine pw_ 19 75 (ar 33 20) HT_.out ?_
                   refine pw_ 24 80 #[true, true, true, true, true, true, true, true, true, true, true, true, true, true, true, true, true, true, true, true, false, false, false, false, true, false, false, false, false, false, false, false, false] HT_.out ?_
                   refine pw_ 25 81 #[true, true, true, true, true, true, true, true, true, true, true, true, true, true, true, true, true, true, true, true, false, false, false, false, true, true, false, false, false, false, false, false, false] HT_.out ?_
                   refine pw_ 26 82 #[true, true, true, true, true, true, true, true, true, true, true, true, true, true, true, true, true, true, true, true, false, false, false, false, true, true, true, false, false, false, false, false, false] HT_.out ?_
                   refine take_ (i := 20) (N := some 76) (v := ?_) (a' := ?_) #[true, true, true, true, true, true, true, true, true, true, true, true, true, true, true, true, true, true, true, true, true, false, false, false, true, true, true, false, false, false, false, false, false] rfl rfl (take_ofW HT_.out HW_.out (by kernel_rfl)) (fun _ _ _ h => h) (Or.inl ⟨by rfl, ?_⟩) hHeld ?_ ?_
                   rotate_left
                   ·rintro w' ⟨s0, s1, s2, s3, s4, s5⟩
                    go_simp
                    with_reducible rfl
                   rotate_left
                   ·simp only [Act.put, List.setIfInBounds_toArray, List.set_cons_zero, List.set_cons_succ, i64_w, i32_w]
                    rfl
                   refine pw_ 21 77 #[true, true, true, true, true, true, true, true, true, true, true, true, true, true, true, true, true, true, true, true, true, true, false, false, true, true, true, false, false, false, false, false, false] HT_.out ?_
                   refine pw_ 22 78 #[true, true, true, true, true, true, true, true, true, true, true, true, true, true, true, true, true, true, true, true, true, true, true, false, true, true, true, false, false, false, false, false, false] HT_.out ?_
                   refine take_ (i := 23) (N := some 79) (v := ?_) (a' := ?_) (ar 33 27) rfl rfl (take_ofW HT_.out HW_.out (by kernel_rfl)) (fun _ _ _ h => h) (Or.inl ⟨by rfl, ?_⟩) hHeld ?_ ?_
                   rotate_left
                   ·rintro w' ⟨s0, s1, s2, s3, s4, s5⟩
                    go_simp
                    with_reducible rfl
                   rotate_left
                   ·simp only [Act.put, List.setIfInBounds_toArray, List.set_cons_zero, List.set_cons_succ, i64_w, i32_w]
                    rfl
                   refine take_ (i := 27) (N := some 83) (v := ?_) (a' := ?_) (ar 33 28) rfl rfl (take_ofW HT_.out HW_.out (by kernel_rfl)) (fun _ _ _ h => h) (Or.inl ⟨by rfl, ?_⟩) hHeld ?_ ?_
                   rotate_left
                   ·rintro w' ⟨s0, s1, s2, s3, s4, s5⟩
                    go_simp
                    with_reducible rfl
                   rotate_left
                   ·simp only [Act.put, List.setIfInBounds_toArray, List.set_cons_zero, List.set_cons_succ, i64_w, i32_w]
                    rfl
                   refine pw_ 28 84 (ar 33 29) HT_.out ?_
                   refine pw_ 29 85 (ar 33 30) HT_.out ?_
                   refine take_ (i := 30) (N := some 86) (v := ?_) (a' := ?_) (ar 33 31) rfl rfl (take_ofW HT_.out HW_.out (by kernel_rfl)) (fun _ _ _ h => h) (Or.inl ⟨by rfl, ?_⟩) hHeld ?_ ?_
                   rotate_left
                   ·rintro w' ⟨s0, s1, s2, s3, s4, s5⟩
                    go_simp
                    with_reducible rfl
                   rotate_left
                   ·simp only [Act.put, List.setIfInBounds_toArray, List.set_cons_zero, List.set_cons_succ, i64_w, i32_w]
                    rfl
                   refine pw_ 31 87 (ar 33 32) HT_.out ?_
                   refine pw_ 32 88 (ar 33 33) HT_.out ?_
                   refine done_ (done_of HT_.out (by kernel_rfl)) ?_
                   have hcz40_0 : w39.cell? ⟨gb141, 0, none⟩ = some (.int .i64 x6_1) := (blk_cell BK141.out 0).trans rfl
                   have hcz40_1 : w39.cell? ⟨gb141, 1, none⟩ = some (.int .i64 x7_2) := (blk_cell BK141.out 1).trans rfl
                   have hcz40_2 : w39.cell? ⟨gb141, 2, none⟩ = some (.int .i64 x142002_4) := (blk_cell BK141.out 2).trans rfl
                   have hcz40_3 : w39.cell? ⟨gb141, 3, none⟩ = some (.int .i64 x142003_4) := (blk_cell BK141.out 3).trans rfl
                   have hfz40_0 := blk_frozen BK141.out 0
                   have hfz40_1 := blk_frozen BK141.out 1
                   have hfz40_2 := blk_frozen BK141.out 2
                   have hfz40_3 := blk_frozen BK141.out 3
                   try go_wp2_with (first | ((with_reducible refine gate_builtin (b := .append) (xs := #[.tmp 106, .tmp 108]) rfl ?_); (try (refine gate_guard (by rfl) ?_; dsimp only)); at_builtin; refine Kd.R_append k30 (w0 := w) w.heap.size rfl (.tmp 106) (.tmp 108) 50 30 (.agg #[(.int .i64 0), (.int .i64 0), (.int .i64 0), (.int .i64 0)]) 32 rfl Try.underlying50 info30 rfl (by decide) (by omega) u5 x5_2 (⟨x6_1, x7_2, x142002_4, x142003_4⟩ : S30) [.int .i64 x6_1, .int .i64 x7_2, .int .i64 x142002_4, .int .i64 x142003_4] (fun k_ => k_ ≠ gb141) (fun _ => False) rfl rfl ?aP (fun _ hk => hk.elim) ?aF ?aO ?aB ?aS ?aL ?_; (case aP => exact k30_mkM _ _ _ (⟨x6_1, x7_2, x142002_4, x142003_4⟩ : S30)); (case aB => exact (by repeat (first | (with_reducible first | exact HB.out | apply below_alloc | apply pw_below_drewN | apply below_drew1 | refine below_set ?_ GE141.out) | exact HB.out))); (case aF => exact (fun k_ hk => Kd.freshB (g := gb141) (o := .cells #[.int .i64 x6_1, .int .i64 x7_2, .int .i64 x142002_4, .int .i64 x142003_4] 30 (0, 0)) (by (with_reducible repeat (first | refine blk_drewN ?_ _ | refine blk_drew ?_ | refine blk_alloc ?_ _)); exact BK141.out) k_ hk)); (case aO => exact (by (with_reducible repeat (first | apply Kd.R_alloc | apply Kd.R_drewN | apply Kd.R_drew)); exact HO_5.out)); (case aS => exact (below_size (by repeat (first | (with_reducible first | exact HB.out | apply below_alloc | apply pw_below_drewN | apply below_drew1 | refine below_set ?_ GE141.out) | exact HB.out)))); (case aL => have := LMc38.out; omega); intro v147 w41 ho hb hg hat; rw [← Ny146.out] at ho; have n0_ := Aside0.mk (blk_grown (g := gb141) (o := .cells #[.int .i64 x6_1, .int .i64 x7_2, .int .i64 x142002_4, .int .i64 x142003_4] 30 (0, 0)) (by (with_reducible repeat (first | refine blk_drewN ?_ _ | refine blk_drew ?_ | refine blk_alloc ?_ _)); exact BK141.out) hg (Kd.R_away HO_5.out (fun _ hk => hk))); have n1_ := Aside0.mk (hb); have n2_ := Aside0.mk (ho); clear BK141; clear HB; clear HO_5; have BK141 := n0_; have HB := n1_; have HO148 := n2_; clear n0_ n1_ n2_; clear ho hb hg hat))
                   go_roundg k4
                   case measure => have := HK1.out; have := HK2.out; have := HJ4.out; have := HK4.out; omega
                   case rel => exact ⟨(y146), (wrap64 (x7_2 + 1)), (by first | rfl | (simp; done) | (simp [*]; done)), H', ⟨by have := HK1.out; have := HK2.out; have := HJ4.out; have := HK4.out; omega⟩, ⟨by (with_reducible repeat (first | apply Kd.R_alloc | apply Kd.R_drewN | apply Kd.R_drew)); exact Kd.R_mono HO148.out (fun _ hk => trivial)⟩, ⟨by repeat (first | (with_reducible first | exact HB.out | apply below_alloc | apply pw_below_drewN | apply below_drew1 | refine below_set ?_ GE141.out) | exact HB.out)⟩⟩
                  ·rw [if_neg c38] at H
                   exact absurd H (by simp)
                ·rw [if_neg c30] at H
                 exact absurd H (by simp)
               ·rw [if_neg c28] at H
                exact absurd H (by simp)
              ·rw [if_neg c26] at H
               have c26b0 : decide ((wrap64 (x7_2 + x142002_4)) < (l1.length : Int)) = false := decide_eq_false c26
               clear c26
               by_cases c42 : x5_2.length < 4398046511104
               ·rw [if_pos c42] at H
                have LMc42 := Aside0.mk c42
                clear c42
                obtain ⟨y149, hy149⟩ : ∃ y_ : List (S30), y_ = (x5_2 ++ [(⟨x6_1, x7_2, x142002_4, x142003_4⟩ : S30)]) := ⟨_, rfl⟩
                replace H : (redlineref08_Runs.l1 k4 l0 l1 y149 x6_1 (wrap64 (x7_2 + 1))) = some r := by first | (rw [hy149]; with_reducible exact H) | (have H2_ := (Option.bind_some _ _).symm.trans H; rw [hy149]; with_reducible exact H2_) | (have H2_ := (Option.bind_some _ _).symm.trans H; with_reducible exact H2_) | with_reducible exact H | (rw [hy149]; exact H) | exact H
                have Ny149 := Aside0.mk hy149
                clear hy149
                have H' := Aside0.mk H
                clear H
                try go_wp2
                have n0_ := Aside0.mk (Kd.R_drew HO_5.out)
                have n1_ := Aside0.mk (blk_drew BK141.out)
                have n2_ := Aside0.mk (below_drew1 HB.out)
                clear HO_5
                clear BK141
                clear HB
                have HO_5 := n0_
                have BK141 := n1_
                have HB := n2_
                clear n0_ n1_ n2_
                refine start_ (n := 33) (S := fun w' => w'.cell? ⟨gb141, 0, none⟩ = some (.int .i64 x6_1) ∧ w'.cell? ⟨gb141, 1, none⟩ = some (.int .i64 x7_2) ∧ w'.cell? ⟨gb141, 2, none⟩ = some (.int .i64 x142002_4) ∧ w'.cell? ⟨gb141, 3, none⟩ = some (.int .i64 x142003_4)) (ds := []) #[false, false, false, false, false, false, false, false, false, false, false, false, false, false, false, false, false, false, false, false, false, false, false, false, false, false, false, false, false, false, false, false, false] (by kernel_rfl) rfl rfl ⟨(blk_cell BK141.out 0).trans rfl, (blk_cell BK141.out 1).trans rfl, (blk_cell BK141.out 2).trans rfl, (blk_cell BK141.out 3).trans rfl⟩ (fun hHeld => ?_); refine with_tabW redlineref08_Runs.tab10 redlineref08_Runs.bits10 (fun HT_ HW_ => ?_)
                generalize wr.drew = w43 at HO_5 BK141 HB hHeld ⊢
                refine pw_ 0 56 (ar 33 1) HT_.out ?_
                refine pw_ 1 57 (ar 33 2) HT_.out ?_
                refine pw_ 4 60 #[true, true, false, false, true, false, false, false, false, false, false, false, false, false, false, false, false, false, false, false, false, false, false, false, false, false, false, false, false, false, false, false, false] HT_.out ?_
                refine pw_ 5 61 #[true, true, false, false, true, true, false, false, false, false, false, false, false, false, false, false, false, false, false, false, false, false, false, false, false, false, false, false, false, false, false, false, false] HT_.out ?_
                refine take_ (i := 2) (N := some 58) (v := ?_) (a' := ?_) #[true, true, true, false, true, true, false, false, false, false, false, false, false, false, false, false, false, false, false, false, false, false, false, false, false, false, false, false, false, false, false, false, false] rfl rfl (take_ofW HT_.out HW_.out (by kernel_rfl)) (fun _ _ _ h => h) (Or.inl ⟨by rfl, ?_⟩) hHeld ?_ ?_
                rotate_left
                ·rintro w' ⟨s0, s1, s2, s3⟩
                 go_simp
                 with_reducible rfl
                rotate_left
                ·simp only [Act.put, List.setIfInBounds_toArray, List.set_cons_zero, List.set_cons_succ, i64_w, i32_w]
                 rfl
                refine pw_ 3 59 (ar 33 6) HT_.out ?_
                refine pw_ 6 62 (ar 33 7) HT_.out ?_
                refine pw_ 7 63 (ar 33 8) HT_.out ?_
                refine pw_ 8 64 (ar 33 9) HT_.out ?_
                refine pw_ 9 65 (ar 33 10) HT_.out ?_
                refine pw_ 12 68 #[true, true, true, true, true, true, true, true, true, true, false, false, true, false, false, false, false, false, false, false, false, false, false, false, false, false, false, false, false, false, false, false, false] HT_.out ?_
                refine pw_ 13 69 #[true, true, true, true, true, true, true, true, true, true, false, false, true, true, false, false, false, false, false, false, false, false, false, false, false, false, false, false, false, false, false, false, false] HT_.out ?_
                refine take_ (i := 10) (N := some 66) (v := ?_) (a' := ?_) #[true, true, true, true, true, true, true, true, true, true, true, false, true, true, false, false, false, false, false, false, false, false, false, false, false, false, false, false, false, false, false, false, false] rfl rfl (take_ofW HT_.out HW_.out (by kernel_rfl)) (fun _ _ _ h => h) (Or.inl ⟨by rfl, ?_⟩) hHeld ?_ ?_
                rotate_left
                ·rintro w' ⟨s0, s1, s2, s3⟩
                 go_simp
                 with_reducible rfl
                rotate_left
                ·simp only [Act.put, List.setIfInBounds_toArray, List.set_cons_zero, List.set_cons_succ, i64_w, i32_w]
                 rfl
                refine pw_ 11 67 (ar 33 14) HT_.out ?_
                refine pw_ 14 70 (ar 33 15) HT_.out ?_
                refine pw_ 15 71 (ar 33 16) HT_.out ?_
                refine pw_ 16 72 (ar 33 17) HT_.out ?_
                refine pu_ 17 73 (ar 33 18) HT_.out ?_
                refine pu_ 18 74 (ar 33 19) HT_.out ?_
                refine pu_ 19 75 (ar 33 20) HT_.out ?_
                refine pu_ 20 76 (ar 33 21) HT_.out ?_
                refine pu_ 21 77 (ar 33 22) HT_.out ?_
                refine pu_ 22 78 (ar 33 23) HT_.out ?_
                refine pu_ 23 79 (ar 33 24) HT_.out ?_
                refine pu_ 24 80 (ar 33 25) HT_.out ?_
                refine pu_ 25 81 (ar 33 26) HT_.out ?_
                refine pu_ 26 82 (ar 33 27) HT_.out ?_
                refine pu_ 27 83 (ar 33 28) HT_.out ?_
                refine pu_ 28 84 (ar 33 29) HT_.out ?_
                refine pu_ 29 85 (ar 33 30) HT_.out ?_
                refine pu_ 30 86 (ar 33 31) HT_.out ?_
                refine pu_ 31 87 (ar 33 32) HT_.out ?_
                refine pw_ 32 88 (ar 33 33) HT_.out ?_
                refine done_ (done_of HT_.out (by kernel_rfl)) ?_
                have hcz44_0 : w43.cell? ⟨gb141, 0, none⟩ = some (.int .i64 x6_1) := (blk_cell BK141.out 0).trans rfl
                have hcz44_1 : w43.cell? ⟨gb141, 1, none⟩ = some (.int .i64 x7_2) := (blk_cell BK141.out 1).trans rfl
                have hcz44_2 : w43.cell? ⟨gb141, 2, none⟩ = some (.int .i64 x142002_4) := (blk_cell BK141.out 2).trans rfl
                have hcz44_3 : w43.cell? ⟨gb141, 3, none⟩ = some (.int .i64 x142003_4) := (blk_cell BK141.out 3).trans rfl
                have hfz44_0 := blk_frozen BK141.out 0
                have hfz44_1 := blk_frozen BK141.out 1
                have hfz44_2 := blk_frozen BK141.out 2
                have hfz44_3 := blk_frozen BK141.out 3
                try go_wp2_with (first | ((with_reducible refine gate_builtin (b := .append) (xs := #[.tmp 106, .tmp 108]) rfl ?_); (try (refine gate_guard (by rfl) ?_; dsimp only)); at_builtin; refine Kd.R_append k30 (w0 := w) w.heap.size rfl (.tmp 106) (.tmp 108) 50 30 (.agg #[(.int .i64 0), (.int .i64 0), (.int .i64 0), (.int .i64 0)]) 32 rfl Try.underlying50 info30 rfl (by decide) (by omega) u5 x5_2 (⟨x6_1, x7_2, x142002_4, x142003_4⟩ : S30) [.int .i64 x6_1, .int .i64 x7_2, .int .i64 x142002_4, .int .i64 x142003_4] (fun k_ => k_ ≠ gb141) (fun _ => False) rfl rfl ?aP (fun _ hk => hk.elim) ?aF ?aO ?aB ?aS ?aL ?_; (case aP => exact k30_mkM _ _ _ (⟨x6_1, x7_2, x142002_4, x142003_4⟩ : S30)); (case aB => exact (by repeat (first | (with_reducible first | exact HB.out | apply below_alloc | apply pw_below_drewN | apply below_drew1 | refine below_set ?_ GE141.out) | exact HB.out))); (case aF => exact (fun k_ hk => Kd.freshB (g := gb141) (o := .cells #[.int .i64 x6_1, .int .i64 x7_2, .int .i64 x142002_4, .int .i64 x142003_4] 30 (0, 0)) (by (with_reducible repeat (first | refine blk_drewN ?_ _ | refine blk_drew ?_ | refine blk_alloc ?_ _)); exact BK141.out) k_ hk)); (case aO => exact (by (with_reducible repeat (first | apply Kd.R_alloc | apply Kd.R_drewN | apply Kd.R_drew)); exact HO_5.out)); (case aS => exact (below_size (by repeat (first | (with_reducible first | exact HB.out | apply below_alloc | apply pw_below_drewN | apply below_drew1 | refine below_set ?_ GE141.out) | exact HB.out)))); (case aL => have := LMc42.out; omega); intro v150 w45 ho hb hg hat; rw [← Ny149.out] at ho; have n0_ := Aside0.mk (blk_grown (g := gb141) (o := .cells #[.int .i64 x6_1, .int .i64 x7_2, .int .i64 x142002_4, .int .i64 x142003_4] 30 (0, 0)) (by (with_reducible repeat (first | refine blk_drewN ?_ _ | refine blk_drew ?_ | refine blk_alloc ?_ _)); exact BK141.out) hg (Kd.R_away HO_5.out (fun _ hk => hk))); have n1_ := Aside0.mk (hb); have n2_ := Aside0.mk (ho); clear BK141; clear HB; clear HO_5; have BK141 := n0_; have HB := n1_; have HO151 := n2_; clear n0_ n1_ n2_; clear ho hb hg hat))
                go_roundg k4
                case measure => have := HK1.out; have := HK2.out; have := HJ4.out; have := HK4.out; omega
                case rel => exact ⟨(y149), (wrap64 (x7_2 + 1)), (by first | rfl | (simp; done) | (simp [*]; done)), H', ⟨by have := HK1.out; have := HK2.out; have := HJ4.out; have := HK4.out; omega⟩, ⟨by (with_reducible repeat (first | apply Kd.R_alloc | apply Kd.R_drewN | apply Kd.R_drew)); exact Kd.R_mono HO151.out (fun _ hk => trivial)⟩, ⟨by repeat (first | (with_reducible first | exact HB.out | apply below_alloc | apply pw_below_drewN | apply below_drew1 | refine below_set ?_ GE141.out) | exact HB.out)⟩⟩
               ·rw [if_neg c42] at H
                exact absurd H (by simp)
             ·rw [if_neg c25] at H
              have c25b0 : decide ((wrap64 (x6_1 + x142002_4)) < (l0.length : Int)) = false := decide_eq_false c25
              clear c25
              by_cases c46 : x5_2.length < 4398046511104
              ·rw [if_pos c46] at H
               have LMc46 := Aside0.mk c46
               clear c46
               obtain ⟨y152, hy152⟩ : ∃ y_ : List (S30), y_ = (x5_2 ++ [(⟨x6_1, x7_2, x142002_4, x142003_4⟩ : S30)]) := ⟨_, rfl⟩
               replace H : (redlineref08_Runs.l1 k4 l0 l1 y152 x6_1 (wrap64 (x7_2 + 1))) = some r := by first | (rw [hy152]; with_reducible exact H) | (have H2_ := (Option.bind_some _ _).symm.trans H; rw [hy152]; with_reducible exact H2_) | (have H2_ := (Option.bind_some _ _).symm.trans H; with_reducible exact H2_) | with_reducible exact H | (rw [hy152]; exact H) | exact H
               have Ny152 := Aside0.mk hy152
               clear hy152
               have H' := Aside0.mk H
               clear H
               try go_wp2
               have n0_ := Aside0.mk (Kd.R_drew HO_5.out)
               have n1_ := Aside0.mk (blk_drew BK141.out)
               have n2_ := Aside0.mk (below_drew1 HB.out)
               clear HO_5
               clear BK141
               clear HB
               have HO_5 := n0_
               have BK141 := n1_
               have HB := n2_
               clear n0_ n1_ n2_
               refine start_ (n := 33) (S := fun w' => w'.cell? ⟨gb141, 0, none⟩ = some (.int .i64 x6_1) ∧ w'.cell? ⟨gb141, 1, none⟩ = some (.int .i64 x7_2) ∧ w'.cell? ⟨gb141, 2, none⟩ = some (.int .i64 x142002_4) ∧ w'.cell? ⟨gb141, 3, none⟩ = some (.int .i64 x142003_4)) (ds := []) #[false, false, false, false, false, false, false, false, false, false, false, false, false, false, false, false, false, false, false, false, false, false, false, false, false, false, false, false, false, false, false, false, false] (by kernel_rfl) rfl rfl ⟨(blk_cell BK141.out 0).trans rfl, (blk_cell BK141.out 1).trans rfl, (blk_cell BK141.out 2).trans rfl, (blk_cell BK141.out 3).trans rfl⟩ (fun hHeld => ?_); refine with_tabW redlineref08_Runs.tab10 redlineref08_Runs.bits10 (fun HT_ HW_ => ?_)
               generalize wr.drew = w47 at HO_5 BK141 HB hHeld ⊢
               refine pw_ 0 56 (ar 33 1) HT_.out ?_
               refine pw_ 1 57 (ar 33 2) HT_.out ?_
               refine pw_ 4 60 #[true, true, false, false, true, false, false, false, false, false, false, false, false, false, false, false, false, false, false, false, false, false, false, false, false, false, false, false, false, false, false, false, false] HT_.out ?_
               refine pw_ 5 61 #[true, true, false, false, true, true, false, false, false, false, false, false, false, false, false, false, false, false, false, false, false, false, false, false, false, false, false, false, false, false, false, false, false] HT_.out ?_
               refine take_ (i := 2) (N := some 58) (v := ?_) (a' := ?_) #[true, true, true, false, true, true, false, false, false, false, false, false, false, false, false, false, false, false, false, false, false, false, false, false, false, false, false, false, false, false, false, false, false] rfl rfl (take_ofW HT_.out HW_.out (by kernel_rfl)) (fun _ _ _ h => h) (Or.inl ⟨by rfl, ?_⟩) hHeld ?_ ?_
               rotate_left
               ·rintro w' ⟨s0, s1, s2, s3⟩
                go_simp
                with_reducible rfl
               rotate_left
               ·simp only [Act.put, List.setIfInBounds_toArray, List.set_cons_zero, List.set_cons_succ, i64_w, i32_w]
                rfl
               refine pw_ 3 59 (ar 33 6) HT_.out ?_
               refine pw_ 6 62 (ar 33 7) HT_.out ?_
               refine pw_ 7 63 (ar 33 8) HT_.out ?_
               refine pu_ 8 64 (ar 33 9) HT_.out ?_
               refine pu_ 9 65 (ar 33 10) HT_.out ?_
               refine pu_ 10 66 (ar 33 11) HT_.out ?_
               refine pu_ 11 67 (ar 33 12) HT_.out ?_
               refine pu_ 12 68 (ar 33 13) HT_.out ?_
               refine pu_ 13 69 (ar 33 14) HT_.out ?_
               refine pu_ 14 70 (ar 33 15) HT_.out ?_
               refine pw_ 15 71 (ar 33 16) HT_.out ?_
               refine pw_ 16 72 (ar 33 17) HT_.out ?_
               refine pu_ 17 73 (ar 33 18) HT_.out ?_
               refine pu_ 18 74 (ar 33 19) HT_.out ?_
               refine pu_ 19 75 (ar 33 20) HT_.out ?_
               refine pu_ 20 76 (ar 33 21) HT_.out ?_
               refine pu_ 21 77 (ar 33 22) HT_.out ?_
               refine pu_ 22 78 (ar 33 23) HT_.out ?_
               refine pu_ 23 79 (ar 33 24) HT_.out ?_
               refine pu_ 24 80 (ar 33 25) HT_.out ?_
               refine pu_ 25 81 (ar 33 26) HT_.out ?_
               refine pu_ 26 82 (ar 33 27) HT_.out ?_
               refine pu_ 27 83 (ar 33 28) HT_.out ?_
               refine pu_ 28 84 (ar 33 29) HT_.out ?_
               refine pu_ 29 85 (ar 33 30) HT_.out ?_
               refine pu_ 30 86 (ar 33 31) HT_.out ?_
               refine pu_ 31 87 (ar 33 32) HT_.out ?_
               refine pw_ 32 88 (ar 33 33) HT_.out ?_
               refine done_ (done_of HT_.out (by kernel_rfl)) ?_
               have hcz48_0 : w47.cell? ⟨gb141, 0, none⟩ = some (.int .i64 x6_1) := (blk_cell BK141.out 0).trans rfl
               have hcz48_1 : w47.cell? ⟨gb141, 1, none⟩ = some (.int .i64 x7_2) := (blk_cell BK141.out 1).trans rfl
               have hcz48_2 : w47.cell? ⟨gb141, 2, none⟩ = some (.int .i64 x142002_4) := (blk_cell BK141.out 2).trans rfl
               have hcz48_3 : w47.cell? ⟨gb141, 3, none⟩ = some (.int .i64 x142003_4) := (blk_cell BK141.out 3).trans rfl
               have hfz48_0 := blk_frozen BK141.out 0
               have hfz48_1 := blk_frozen BK141.out 1
               have hfz48_2 := blk_frozen BK141.out 2
               have hfz48_3 := blk_frozen BK141.out 3
               try go_wp2_with (first | ((with_reducible refine gate_builtin (b := .append) (xs := #[.tmp 106, .tmp 108]) rfl ?_); (try (refine gate_guard (by rfl) ?_; dsimp only)); at_builtin; refine Kd.R_append k30 (w0 := w) w.heap.size rfl (.tmp 106) (.tmp 108) 50 30 (.agg #[(.int .i64 0), (.int .i64 0), (.int .i64 0), (.int .i64 0)]) 32 rfl Try.underlying50 info30 rfl (by decide) (by omega) u5 x5_2 (⟨x6_1, x7_2, x142002_4, x142003_4⟩ : S30) [.int .i64 x6_1, .int .i64 x7_2, .int .i64 x142002_4, .int .i64 x142003_4] (fun k_ => k_ ≠ gb141) (fun _ => False) rfl rfl ?aP (fun _ hk => hk.elim) ?aF ?aO ?aB ?aS ?aL ?_; (case aP => exact k30_mkM _ _ _ (⟨x6_1, x7_2, x142002_4, x142003_4⟩ : S30)); (case aB => exact (by repeat (first | (with_reducible first | exact HB.out | apply below_alloc | apply pw_below_drewN | apply below_drew1 | refine below_set ?_ GE141.out) | exact HB.out))); (case aF => exact (fun k_ hk => Kd.freshB (g := gb141) (o := .cells #[.int .i64 x6_1, .int .i64 x7_2, .int .i64 x142002_4, .int .i64 x142003_4] 30 (0, 0)) (by (with_reducible repeat (first | refine blk_drewN ?_ _ | refine blk_drew ?_ | refine blk_alloc ?_ _)); exact BK141.out) k_ hk)); (case aO => exact (by (with_reducible repeat (first | apply Kd.R_alloc | apply Kd.R_drewN | apply Kd.R_drew)); exact HO_5.out)); (case aS => exact (below_size (by repeat (first | (with_reducible first | exact HB.out | apply below_alloc | apply pw_below_drewN | apply below_drew1 | refine below_set ?_ GE141.out) | exact HB.out)))); (case aL => have := LMc46.out; omega); intro v153 w49 ho hb hg hat; rw [← Ny152.out] at ho; have n0_ := Aside0.mk (blk_grown (g := gb141) (o := .cells #[.int .i64 x6_1, .int .i64 x7_2, .int .i64 x142002_4, .int .i64 x142003_4] 30 (0, 0)) (by (with_reducible repeat (first | refine blk_drewN ?_ _ | refine blk_drew ?_ | refine blk_alloc ?_ _)); exact BK141.out) hg (Kd.R_away HO_5.out (fun _ hk => hk))); have n1_ := Aside0.mk (hb); have n2_ := Aside0.mk (ho); clear BK141; clear HB; clear HO_5; have BK141 := n0_; have HB := n1_; have HO154 := n2_; clear n0_ n1_ n2_; clear ho hb hg hat))
               go_roundg k4
               case measure => have := HK1.out; have := HK2.out; have := HJ4.out; have := HK4.out; omega
               case rel => exact ⟨(y152), (wrap64 (x7_2 + 1)), (by first | rfl | (simp; done) | (simp [*]; done)), H', ⟨by have := HK1.out; have := HK2.out; have := HJ4.out; have := HK4.out; omega⟩, ⟨by (with_reducible repeat (first | apply Kd.R_alloc | apply Kd.R_drewN | apply Kd.R_drew)); exact Kd.R_mono HO154.out (fun _ hk => trivial)⟩, ⟨by repeat (first | (with_reducible first | exact HB.out | apply below_alloc | apply pw_below_drewN | apply below_drew1 | refine below_set ?_ GE141.out) | exact HB.out)⟩⟩
              ·rw [if_neg c46] at H
               exact absurd H (by simp)
       ·rw [if_neg c4] at H
        have c4b0 : decide (x7_2 < (l1.length : Int)) = false := decide_eq_false c4
        clear c4
        have H' := Aside0.mk H
        clear H
        go_wp2
        go_roundg k2
        case measure => have := HK1.out; have := HK2.out; omega
        case rel => exact ⟨(x5_2), (wrap64 (x6_1 + 1)), (by first | rfl | (simp; done) | (simp [*]; done)), H', ⟨by have := HK1.out; have := HK2.out; omega⟩, ⟨by (with_reducible repeat (first | apply Kd.R_alloc | apply Kd.R_drewN | apply Kd.R_drew)); exact HO_5.out⟩, ⟨by repeat (first | (with_reducible first | exact HB.out | apply below_alloc | apply pw_below_drewN | apply below_drew1) | exact HB.out)⟩⟩
    ·rw [if_neg c3] at H
     have c3b0 : decide (x6_1 < (l0.length : Int)) = false := decide_eq_false c3
     clear c3
     obtain rfl := Option.some.inj H
     go_wp2
     go_ret
     exact ⟨_, by first | rfl | (simp [errW_none, errW_some] <;> rfl) | (simp [*, errW_none, errW_some] <;> rfl), by (with_reducible repeat (first | apply Kd.R_alloc | apply Kd.R_drewN | apply Kd.R_drew)); exact HO_5.out, by repeat (first | (with_reducible first | exact HB.out | apply below_alloc | apply pw_below_drewN | apply below_drew1) | exact HB.out)⟩
end Go.Proofs.Ytdcldoembdifpaa.X
