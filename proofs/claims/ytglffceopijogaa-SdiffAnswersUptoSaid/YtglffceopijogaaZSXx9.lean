import Derived.Test.YtglffceopijogaaZSXx0
import Derived.Test.YtglffceopijogaaZSXx8
namespace Go.Proofs.Ytglffceopijogaa.X
open Go.RowKit Go.Proofs.YtglffceopijogaaW.PrintWords Go.Proofs.YtglffceopijogaaW.PrintLast Go.Proofs.YtglffceopijogaaW.PrintMore
attribute [local go_sem] max2_int min2_int max_two min_two max_three min_three max_four min_four   -- for this text's walks alone
open Go.Proofs.YtglffceopijogaaW.HandWords
set_option linter.unusedVariables false
set_option linter.unusedSimpArgs false
def sdiff_pieces.l0 : Nat → List ByteArray → List ByteArray → List (S74) → Int → List (S97) → Int → Int → Option ((List (S74)) × ByteArray)
  | 0, _, _, _, _, _, _, _ => none
  | k + 1, x1, x2, x8, x9, x12, x13, x14 => if x14 < x13 then (if 0 ≤ x14 then (if x14 < (x12.length : Int) then (if 0 ≤ x9 then (if x9 ≤ ((rd_T97 x12 x14).f0) then (if ((rd_T97 x12 x14).f0) ≤ (x1.length : Int) then ((sdiff_all.f k ((x1.take (((rd_T97 x12 x14).f0) : Int).toNat).drop (x9 : Int).toNat)).bind fun t114 => (if 0 ≤ ((rd_T97 x12 x14).f0) then (if ((rd_T97 x12 x14).f0) ≤ (wrap64 (((rd_T97 x12 x14).f0) + ((rd_T97 x12 x14).f1))) then (if (wrap64 (((rd_T97 x12 x14).f0) + ((rd_T97 x12 x14).f1))) ≤ (x1.length : Int) then ((sdiff_all.f k ((x1.take ((wrap64 (((rd_T97 x12 x14).f0) + ((rd_T97 x12 x14).f1))) : Int).toNat).drop (((rd_T97 x12 x14).f0) : Int).toNat)).bind fun t116 => (if 0 ≤ ((rd_T97 x12 x14).f2) then (if ((rd_T97 x12 x14).f2) ≤ (wrap64 (((rd_T97 x12 x14).f2) + ((rd_T97 x12 x14).f3))) then (if (wrap64 (((rd_T97 x12 x14).f2) + ((rd_T97 x12 x14).f3))) ≤ (x2.length : Int) then ((sdiff_all.f k ((x2.take ((wrap64 (((rd_T97 x12 x14).f2) + ((rd_T97 x12 x14).f3))) : Int).toNat).drop (((rd_T97 x12 x14).f2) : Int).toNat)).bind fun t118 => (if x8.length < 2932031007402 then (sdiff_pieces.l0 k x1 x2 (x8 ++ [(⟨t114, t116, t118⟩ : S74)]) (wrap64 (((rd_T97 x12 x14).f0) + ((rd_T97 x12 x14).f1))) x12 x13 (wrap64 (x14 + 1))) else (none))) else (none)) else (none)) else (none))) else (none)) else (none)) else (none))) else (none)) else (none)) else (none)) else (none)) else (none)) else (if 0 ≤ x9 then (if x9 ≤ (x1.length : Int) then ((sdiff_all.f k (x1.drop (x9 : Int).toNat)).bind fun t123 => (some (x8, t123))) else (none)) else (none))
def sdiff_pieces.f (k : Nat) (l0 : List (S97)) (l1 : List ByteArray) (l2 : List ByteArray) : Option ((List (S74)) × ByteArray) := sdiff_pieces.l0 k l1 l2 ([] : List (S74)) 0 l0 (l0.length : Int) 0
def sdiff_pieces.T6 : Bool × List (List Nat × List Nat) := (true, [([], []), ([], []), ([], []), ([], []), ([3], [3]), ([1, 2, 4], [1, 2, 4]), ([5], [5]), ([], []), ([], []), ([8], [8]), ([], []), ([10], [10]), ([], []), ([12], [12]), ([11, 13], [11, 13]), ([7, 9, 14], [7, 9, 14]), ([15, 6], [15]), ([], []), ([], []), ([18], [18]), ([], []), ([20], [20]), ([], []), ([22], [22]), ([21, 23], [21, 23]), ([17, 19, 24], [17, 19, 24]), ([25, 16], [25]), ([6, 16, 26], [6, 16, 26]), ([27], [27]), ([0, 28, 26], [0, 28]), ([29, 29, 0, 1, 2, 3, 4, 5, 6, 7, 8, 9, 10, 11, 12, 13, 14, 15, 16, 17, 18, 19, 20, 21, 22, 23, 24, 25, 26, 27, 28, 29], [0, 29])])
def sdiff_pieces.B6 : List Nat := [0, 0, 0, 0, 8, 30, 62, 0, 0, 256, 0, 1024, 0, 4096, 15360, 32640, 65534, 0, 0, 262144, 0, 1048576, 0, 4194304, 15728640, 33423360, 67108862, 134217726, 268435454, 536870911, 1073741823]
theorem sdiff_pieces.tab6 : rtab .any (opsOf Try.f22 6) = sdiff_pieces.T6 := by kernel_rfl
theorem sdiff_pieces.bits6 : waitsOk sdiff_pieces.T6.2 sdiff_pieces.B6 = true := by kernel_rfl
set_option maxHeartbeats 8000000 in
set_option maxRecDepth 100000 in
theorem sdiff_pieces.calls (k : Nat) (A0 : Option Addr) (c0 : Nat) (l0 : List (S97)) (A1 : Option Addr) (c1 : Nat) (l1 : List ByteArray) (A2 : Option Addr) (c2 : Nat) (l2 : List ByteArray) (r1 : List (S74)) (r2 : ByteArray) (w : World) (hr0 : Kd.C k97 w A0 l0.length l0) (hc0 : l0.length ≤ c0) (hr1 : Kd.C Kd.string w A1 l1.length l1) (hc1 : l1.length ≤ c1) (hr2 : Kd.C Kd.string w A2 l2.length l2) (hc2 : l2.length ≤ c2) (h : sdiff_pieces.f k l0 l1 l2 = some (r1, r2)) :
    Calls Try.prog 22 #[.slice A0 l0.length c0, .slice A1 l1.length c1, .slice A2 l2.length c2] w fun e w' => ∃ v0_ : Value, e = .returned (.tuple #[v0_, .string r2]) ∧ Kd.R k74 74 w' w.heap.size (fun _ => True) v0_ r1 ∧ Below w.heap.size w w' := by
  have hu97 := Try.underlying97
  have hu74 := Try.underlying74
  have HR0 := Aside0.mk hr0
  have HC0 := Aside0.mk hc0
  clear hr0 hc0
  have HR1 := Aside0.mk hr1
  have HC1 := Aside0.mk hc1
  clear hr1 hc1
  have HR2 := Aside0.mk hr2
  have HC2 := Aside0.mk hc2
  clear hr2 hc2
  have HB := Aside0.mk (Below.refl w.heap.size w)
  have H : (sdiff_pieces.l0 k l1 l2 ([] : List (S74)) 0 l0 (l0.length : Int) 0) = some (r1, r2) := h
  clear h
  have H' := Aside0.mk H
  clear H
  go_enter Try.func22, Try.ntmps22
  go_wp2
  go_loopg [8, 9, 14] k (fun kq v8 v9 v14 w' => ∃ (x8_1 : List (S74)) (x9_1 : Int) (x14_1 : Int), v9 = .int .i64 x9_1 ∧ v14 = .int .i64 x14_1 ∧ Aside0 (sdiff_pieces.l0 kq l1 l2 x8_1 x9_1 l0 (l0.length : Int) x14_1 = some (r1, r2)) ∧ Aside0 (kq ≤ k) ∧ Aside0 (Kd.R k74 74 w' w.heap.size (fun _ => True) v8 x8_1) ∧ Aside0 (Below w.heap.size w w'))
  case atStart => exact ⟨(([] : List (S74))), (0), (0), (by first | rfl | (simp; done) | (simp [*]; done)), (by first | rfl | (simp; done) | (simp [*]; done)), H', ⟨Nat.le_refl _⟩, ⟨by first | exact Kd.R_nil _ _ _ _ _ | exact Kd.N_nil _ _ _ _ _ | exact Kd.V_nil _ _ _ _ _ | exact Kd.Q_nil _ _ _ _ _ | exact Kd.S_nil _ _ _ _ _⟩, ⟨by repeat (first | (with_reducible first | exact HB.out | apply below_alloc | apply pw_below_drewN | apply below_drew1) | exact HB.out)⟩⟩
  case round =>
   clear H'
   try clear c1
   try clear c2
   try clear p2
   obtain ⟨x8_1, x9_1, x14_1, rfl, rfl, HA, HK1, HO_8, HB⟩ := hrel
   cases gk with
   | zero => exact absurd HA.out (by simp [sdiff_pieces.l0])
   | succ k1 =>
    have H := HA.out
    clear HA
    simp only [sdiff_pieces.l0] at H
    by_cases c4 : x14_1 < (l0.length : Int)
    ·rw [if_pos c4] at H
     have c4b0 : decide (x14_1 < (l0.length : Int)) = true := decide_eq_true c4
     clear c4
     by_cases c5 : 0 ≤ x14_1
     ·rw [if_pos c5] at H
      have c5b0 : decide (0 ≤ x14_1) = true := decide_eq_true c5
      clear c5
      by_cases c6 : x14_1 < (l0.length : Int)
      ·rw [if_pos c6] at H
       have c6b0 : decide (x14_1 < (l0.length : Int)) = true := decide_eq_true c6
       clear c6
       by_cases c7 : 0 ≤ x9_1
       ·rw [if_pos c7] at H
        have c7b0 := eq_true c7
        have c7b1 : decide (0 ≤ x9_1) = true := decide_eq_true c7
        clear c7
        by_cases c8 : x9_1 ≤ ((rd_T97 l0 x14_1).f0)
        ·rw [if_pos c8] at H
         have c8b0 := eq_true c8
         have c8b1 : decide (x9_1 ≤ ((rd_T97 l0 x14_1).f0)) = true := decide_eq_true c8
         clear c8
         by_cases c9 : ((rd_T97 l0 x14_1).f0) ≤ (l1.length : Int)
         ·rw [if_pos c9] at H
          have c9b0 := eq_true c9
          have c9b1 : decide (((rd_T97 l0 x14_1).f0) ≤ (l1.length : Int)) = true := decide_eq_true c9
          clear c9
          replace H := Option.bind_eq_some_iff.mp H
          obtain ⟨t114, A100, H⟩ := H
          replace H : (if 0 ≤ ((rd_T97 l0 x14_1).f0) then (if ((rd_T97 l0 x14_1).f0) ≤ (wrap64 (((rd_T97 l0 x14_1).f0) + ((rd_T97 l0 x14_1).f1))) then (if (wrap64 (((rd_T97 l0 x14_1).f0) + ((rd_T97 l0 x14_1).f1))) ≤ (l1.length : Int) then ((sdiff_all.f k1 ((l1.take ((wrap64 (((rd_T97 l0 x14_1).f0) + ((rd_T97 l0 x14_1).f1))) : Int).toNat).drop (((rd_T97 l0 x14_1).f0) : Int).toNat)).bind fun t116 => (if 0 ≤ ((rd_T97 l0 x14_1).f2) then (if ((rd_T97 l0 x14_1).f2) ≤ (wrap64 (((rd_T97 l0 x14_1).f2) + ((rd_T97 l0 x14_1).f3))) then (if (wrap64 (((rd_T97 l0 x14_1).f2) + ((rd_T97 l0 x14_1).f3))) ≤ (l2.length : Int) then ((sdiff_all.f k1 ((l2.take ((wrap64 (((rd_T97 l0 x14_1).f2) + ((rd_T97 l0 x14_1).f3))) : Int).toNat).drop (((rd_T97 l0 x14_1).f2) : Int).toNat)).bind fun t118 => (if x8_1.length < 2932031007402 then (sdiff_pieces.l0 k1 l1 l2 (x8_1 ++ [(⟨t114, t116, t118⟩ : S74)]) (wrap64 (((rd_T97 l0 x14_1).f0) + ((rd_T97 l0 x14_1).f1))) l0 (l0.length : Int) (wrap64 (x14_1 + 1))) else (none))) else (none)) else (none)) else (none))) else (none)) else (none)) else (none)) = some (r1, r2) := H
          have A10 := Aside0.mk A100
          clear A100
          by_cases c11 : 0 ≤ ((rd_T97 l0 x14_1).f0)
          ·rw [if_pos c11] at H
           have c11b0 := eq_true c11
           have c11b1 : decide (0 ≤ ((rd_T97 l0 x14_1).f0)) = true := decide_eq_true c11
           clear c11
           by_cases c12 : ((rd_T97 l0 x14_1).f0) ≤ (wrap64 (((rd_T97 l0 x14_1).f0) + ((rd_T97 l0 x14_1).f1)))
           ·rw [if_pos c12] at H
            have c12b0 := eq_true c12
            have c12b1 : decide (((rd_T97 l0 x14_1).f0) ≤ (wrap64 (((rd_T97 l0 x14_1).f0) + ((rd_T97 l0 x14_1).f1)))) = true := decide_eq_true c12
            by_cases c13 : (wrap64 (((rd_T97 l0 x14_1).f0) + ((rd_T97 l0 x14_1).f1))) ≤ (l1.length : Int)
            ·rw [if_pos c13] at H
             have c13b0 := eq_true c13
             have c13b1 : decide ((wrap64 (((rd_T97 l0 x14_1).f0) + ((rd_T97 l0 x14_1).f1))) ≤ (l1.length : Int)) = true := decide_eq_true c13
             replace H := Option.bind_eq_some_iff.mp H
             obtain ⟨t116, A140, H⟩ := H
             replace H : (if 0 ≤ ((rd_T97 l0 x14_1).f2) then (if ((rd_T97 l0 x14_1).f2) ≤ (wrap64 (((rd_T97 l0 x14_1).f2) + ((rd_T97 l0 x14_1).f3))) then (if (wrap64 (((rd_T97 l0 x14_1).f2) + ((rd_T97 l0 x14_1).f3))) ≤ (l2.length : Int) then ((sdiff_all.f k1 ((l2.take ((wrap64 (((rd_T97 l0 x14_1).f2) + ((rd_T97 l0 x14_1).f3))) : Int).toNat).drop (((rd_T97 l0 x14_1).f2) : Int).toNat)).bind fun t118 => (if x8_1.length < 2932031007402 then (sdiff_pieces.l0 k1 l1 l2 (x8_1 ++ [(⟨t114, t116, t118⟩ : S74)]) (wrap64 (((rd_T97 l0 x14_1).f0) + ((rd_T97 l0 x14_1).f1))) l0 (l0.length : Int) (wrap64 (x14_1 + 1))) else (none))) else (none)) else (none)) else (none)) = some (r1, r2) := H
             have A14 := Aside0.mk A140
             clear A140
             by_cases c15 : 0 ≤ ((rd_T97 l0 x14_1).f2)
             ·rw [if_pos c15] at H
              have c15b0 := eq_true c15
              have c15b1 : decide (0 ≤ ((rd_T97 l0 x14_1).f2)) = true := decide_eq_true c15
              clear c15
              by_cases c16 : ((rd_T97 l0 x14_1).f2) ≤ (wrap64 (((rd_T97 l0 x14_1).f2) + ((rd_T97 l0 x14_1).f3)))
              ·rw [if_pos c16] at H
               have c16b0 := eq_true c16
               have c16b1 : decide (((rd_T97 l0 x14_1).f2) ≤ (wrap64 (((rd_T97 l0 x14_1).f2) + ((rd_T97 l0 x14_1).f3)))) = true := decide_eq_true c16
               by_cases c17 : (wrap64 (((rd_T97 l0 x14_1).f2) + ((rd_T97 l0 x14_1).f3))) ≤ (l2.length : Int)
               ·rw [if_pos c17] at H
                have c17b0 := eq_true c17
                have c17b1 : decide ((wrap64 (((rd_T97 l0 x14_1).f2) + ((rd_T97 l0 x14_1).f3))) ≤ (l2.length : Int)) = true := decide_eq_true c17
                replace H := Option.bind_eq_some_iff.mp H
                obtain ⟨t118, A180, H⟩ := H
                replace H : (if x8_1.length < 2932031007402 then (sdiff_pieces.l0 k1 l1 l2 (x8_1 ++ [(⟨t114, t116, t118⟩ : S74)]) (wrap64 (((rd_T97 l0 x14_1).f0) + ((rd_T97 l0 x14_1).f1))) l0 (l0.length : Int) (wrap64 (x14_1 + 1))) else (none)) = some (r1, r2) := H
                have A18 := Aside0.mk A180
                clear A180
                by_cases c19 : x8_1.length < 2932031007402
                ·rw [if_pos c19] at H
                 have LMc19 := Aside0.mk c19
                 clear c19
                 obtain ⟨y119, hy119⟩ : ∃ y_ : List (S74), y_ = (x8_1 ++ [(⟨t114, t116, t118⟩ : S74)]) := ⟨_, rfl⟩
                 replace H : (sdiff_pieces.l0 k1 l1 l2 y119 (wrap64 (((rd_T97 l0 x14_1).f0) + ((rd_T97 l0 x14_1).f1))) l0 (l0.length : Int) (wrap64 (x14_1 + 1))) = some (r1, r2) := by first | (rw [hy119]; with_reducible exact H) | (have H2_ := (Option.bind_some _ _).symm.trans H; rw [hy119]; with_reducible exact H2_) | (have H2_ := (Option.bind_some _ _).symm.trans H; with_reducible exact H2_) | with_reducible exact H | (rw [hy119]; exact H) | exact H
                 have Ny119 := Aside0.mk hy119
                 clear hy119
                 have H' := Aside0.mk H
                 clear H
                 have p111 : 0 ≤ (x14_1 : Int) := of_decide_eq_true (by first | (with_reducible assumption) | assumption)
                 have q111 : x14_1 < (l0.length : Int) := of_decide_eq_true (by first | (with_reducible assumption) | assumption)
                 obtain ⟨ad111, e111, hx111_0, hx111_1, hx111_2, hx111_3⟩ := at_T97 HR0.out x14_1 p111 q111
                 cases e111
                 replace hx111_0 := (HB.out.cell (World.block_lt_of_cell? w _ hx111_0)).trans hx111_0
                 replace hx111_1 := (HB.out.cell (World.block_lt_of_cell? w _ hx111_1)).trans hx111_1
                 replace hx111_2 := (HB.out.cell (World.block_lt_of_cell? w _ hx111_2)).trans hx111_2
                 replace hx111_3 := (HB.out.cell (World.block_lt_of_cell? w _ hx111_3)).trans hx111_3
                 replace p111 := eq_true p111
                 replace q111 := eq_true q111
                 try go_wp2_with (first | ((with_reducible refine gate_dst (N := 11) rfl ?_); refine box_event ?hg (N := 11) ?hd (cs := #[.int .i64 0, .int .i64 0, .int .i64 0, .int .i64 0]) (t := 97) ?hr ?_; (case hd => rfl); (case hg => rfl); (case hr => first | (go_simp; done) | (go_simp; rfl)); intro gb112 hg w20 hbox hb; have n0_ := Aside0.mk (Kd.R_below (by (with_reducible repeat (first | apply Kd.R_alloc | apply Kd.R_drewN | apply Kd.R_drew)); exact HO_8.out) hb); have n1_ := Aside0.mk (below_step (by repeat (first | (with_reducible first | exact HB.out | apply below_alloc | apply pw_below_drewN | apply below_drew1) | exact HB.out)) hb); have n2_ := Aside0.mk (hbox); have n3_ := Aside0.mk ((by rw [hg]; exact (below_size (by repeat (first | (with_reducible first | exact HB.out | apply below_alloc | apply pw_below_drewN | apply below_drew1) | exact HB.out))) : w.heap.size ≤ gb112)); have n4_ := Aside0.mk ((by rw [hg]; exact (below_size (by repeat (first | (with_reducible first | exact HB.out | apply below_alloc | apply pw_below_drewN | apply below_drew1) | exact HB.out))) : w.heap.size ≤ gb112)); clear HO_8; clear HB; have HO_8 := n0_; have HB := n1_; have BK112 := n2_; have GW112 := n3_; have GE112 := n4_; clear n0_ n1_ n2_ n3_ n4_; clear hb hbox hg; have hcz21_0 : w20.cell? ⟨gb112, 0, none⟩ = some (.int .i64 0) := (blk_cell BK112.out 0).trans rfl; have hcz21_1 : w20.cell? ⟨gb112, 1, none⟩ = some (.int .i64 0) := (blk_cell BK112.out 1).trans rfl; have hcz21_2 : w20.cell? ⟨gb112, 2, none⟩ = some (.int .i64 0) := (blk_cell BK112.out 2).trans rfl; have hcz21_3 : w20.cell? ⟨gb112, 3, none⟩ = some (.int .i64 0) := (blk_cell BK112.out 3).trans rfl; have hfz21_0 := blk_frozen BK112.out 0; have hfz21_1 := blk_frozen BK112.out 1; have hfz21_2 := blk_frozen BK112.out 2; have hfz21_3 := blk_frozen BK112.out 3))
                 have n0_ : Aside0 (Kd.R k74 74 ((((w20.setCell ⟨gb112, 0, none⟩ (.int .i64 ((rd_T97 l0 x14_1).f0))).setCell ⟨gb112, 1, none⟩ (.int .i64 ((rd_T97 l0 x14_1).f1))).setCell ⟨gb112, 2, none⟩ (.int .i64 ((rd_T97 l0 x14_1).f2))).setCell ⟨gb112, 3, none⟩ (.int .i64 ((rd_T97 l0 x14_1).f3))) w.heap.size (fun _ => True) u8 x8_1) := ⟨by (with_reducible repeat (first | apply Kd.R_alloc | apply Kd.R_drewN | apply Kd.R_drew)); exact Kd.R_mono (Kd.R_far (p := ⟨gb112, 3, none⟩) (Kd.R_far (p := ⟨gb112, 2, none⟩) (Kd.R_far (p := ⟨gb112, 1, none⟩) (Kd.R_far (p := ⟨gb112, 0, none⟩) (Kd.R_types HO_8.out BK112.out (by decide)) (fun _ hk => hk.2) (.int .i64 ((rd_T97 l0 x14_1).f0))) (fun _ hk => hk.2) (.int .i64 ((rd_T97 l0 x14_1).f1))) (fun _ hk => hk.2) (.int .i64 ((rd_T97 l0 x14_1).f2))) (fun _ hk => hk.2) (.int .i64 ((rd_T97 l0 x14_1).f3))) (fun _ hk => trivial)⟩
                 have n1_ : Aside0 (((((w20.setCell ⟨gb112, 0, none⟩ (.int .i64 ((rd_T97 l0 x14_1).f0))).setCell ⟨gb112, 1, none⟩ (.int .i64 ((rd_T97 l0 x14_1).f1))).setCell ⟨gb112, 2, none⟩ (.int .i64 ((rd_T97 l0 x14_1).f2))).setCell ⟨gb112, 3, none⟩ (.int .i64 ((rd_T97 l0 x14_1).f3))).heap[gb112]? = some (.cells #[.int .i64 ((rd_T97 l0 x14_1).f0), .int .i64 ((rd_T97 l0 x14_1).f1), .int .i64 ((rd_T97 l0 x14_1).f2), .int .i64 ((rd_T97 l0 x14_1).f3)] 97 (0, 0))) := ⟨by (with_reducible repeat (first | refine blk_drewN ?_ _ | refine blk_drew ?_ | refine blk_alloc ?_ _)); refine blk_put (cs := #[.int .i64 ((rd_T97 l0 x14_1).f0), .int .i64 ((rd_T97 l0 x14_1).f1), .int .i64 ((rd_T97 l0 x14_1).f2), .int .i64 0]) ?_ 3 _ rfl; (with_reducible repeat (first | refine blk_drewN ?_ _ | refine blk_drew ?_ | refine blk_alloc ?_ _)); refine blk_put (cs := #[.int .i64 ((rd_T97 l0 x14_1).f0), .int .i64 ((rd_T97 l0 x14_1).f1), .int .i64 0, .int .i64 0]) ?_ 2 _ rfl; (with_reducible repeat (first | refine blk_drewN ?_ _ | refine blk_drew ?_ | refine blk_alloc ?_ _)); refine blk_put (cs := #[.int .i64 ((rd_T97 l0 x14_1).f0), .int .i64 0, .int .i64 0, .int .i64 0]) ?_ 1 _ rfl; (with_reducible repeat (first | refine blk_drewN ?_ _ | refine blk_drew ?_ | refine blk_alloc ?_ _)); refine blk_put (cs := #[.int .i64 0, .int .i64 0, .int .i64 0, .int .i64 0]) ?_ 0 _ rfl; (with_reducible repeat (first | refine blk_drewN ?_ _ | refine blk_drew ?_ | refine blk_alloc ?_ _)); exact BK112.out⟩
                 have n2_ : Aside0 (Below w.heap.size w ((((w20.setCell ⟨gb112, 0, none⟩ (.int .i64 ((rd_T97 l0 x14_1).f0))).setCell ⟨gb112, 1, none⟩ (.int .i64 ((rd_T97 l0 x14_1).f1))).setCell ⟨gb112, 2, none⟩ (.int .i64 ((rd_T97 l0 x14_1).f2))).setCell ⟨gb112, 3, none⟩ (.int .i64 ((rd_T97 l0 x14_1).f3)))) := ⟨by repeat (first | (with_reducible first | exact HB.out | apply below_alloc | apply pw_below_drewN | apply below_drew1 | refine below_set ?_ GE112.out) | exact HB.out)⟩
                 (try clear HO_8)
                 (try clear BK112)
                 (try clear HB)
                 generalize ((((w20.setCell ⟨gb112, 0, none⟩ (.int .i64 ((rd_T97 l0 x14_1).f0))).setCell ⟨gb112, 1, none⟩ (.int .i64 ((rd_T97 l0 x14_1).f1))).setCell ⟨gb112, 2, none⟩ (.int .i64 ((rd_T97 l0 x14_1).f2))).setCell ⟨gb112, 3, none⟩ (.int .i64 ((rd_T97 l0 x14_1).f3))) = w22 at n0_ n1_ n2_ ⊢
                 have HO_8 := n0_
                 have BK112 := n1_
                 have HB := n2_
                 clear n0_ n1_ n2_
                 have n0_ := Aside0.mk (Kd.R_drew HO_8.out)
                 have n1_ := Aside0.mk (blk_drew BK112.out)
                 have n2_ := Aside0.mk (below_drew1 HB.out)
                 clear HO_8
                 clear BK112
                 clear HB
                 have HO_8 := n0_
                 have BK112 := n1_
                 have HB := n2_
                 clear n0_ n1_ n2_
                 obtain ⟨i024, hi024, _, hsz24, _⟩ := info_parts info9
                 obtain ⟨A24, hcut24, hA24, hC24⟩ := print_mid_of (P := Try.prog) Value.string (⟨#[]⟩ : ByteArray) 23 9 .i64 .i64 Try.underlying23 hi024 hsz24 A1 c1 l1 x9_1 ((rd_T97 l0 x14_1).f0) (of_decide_eq_true (by first | (with_reducible assumption) | assumption)) (by first | omega | exact of_decide_eq_true (by first | (with_reducible assumption) | assumption)) (of_decide_eq_true (by first | (with_reducible assumption) | assumption)) HC1.out
                 have HR113 := Aside0.mk (Kd.C_of_reads (h1 := fun _ => rfl) (hA24 _ (Kd.reads_of_C HR1.out)))
                 have HC113 := Aside0.mk hC24
                 clear hA24 hC24 hi024 hsz24
                 obtain ⟨i025, hi025, _, hsz25, _⟩ := info_parts info9
                 obtain ⟨A25, hcut25, hA25, hC25⟩ := print_mid_of (P := Try.prog) Value.string (⟨#[]⟩ : ByteArray) 23 9 .i64 .i64 Try.underlying23 hi025 hsz25 A1 c1 l1 ((rd_T97 l0 x14_1).f0) (wrap64 (((rd_T97 l0 x14_1).f0) + ((rd_T97 l0 x14_1).f1))) (of_decide_eq_true (by first | (with_reducible assumption) | assumption)) (by first | omega | exact of_decide_eq_true (by first | (with_reducible assumption) | assumption)) (of_decide_eq_true (by first | (with_reducible assumption) | assumption)) HC1.out
                 have HR115 := Aside0.mk (Kd.C_of_reads (h1 := fun _ => rfl) (hA25 _ (Kd.reads_of_C HR1.out)))
                 have HC115 := Aside0.mk hC25
                 clear hA25 hC25 hi025 hsz25
                 obtain ⟨i026, hi026, _, hsz26, _⟩ := info_parts info9
                 obtain ⟨A26, hcut26, hA26, hC26⟩ := print_mid_of (P := Try.prog) Value.string (⟨#[]⟩ : ByteArray) 23 9 .i64 .i64 Try.underlying23 hi026 hsz26 A2 c2 l2 ((rd_T97 l0 x14_1).f2) (wrap64 (((rd_T97 l0 x14_1).f2) + ((rd_T97 l0 x14_1).f3))) (of_decide_eq_true (by first | (with_reducible assumption) | assumption)) (by first | omega | exact of_decide_eq_true (by first | (with_reducible assumption) | assumption)) (of_decide_eq_true (by first | (with_reducible assumption) | assumption)) HC2.out
                 have HR117 := Aside0.mk (Kd.C_of_reads (h1 := fun _ => rfl) (hA26 _ (Kd.reads_of_C HR2.out)))
                 have HC117 := Aside0.mk hC26
                 clear hA26 hC26 hi026 hsz26
                 refine start_ (n := 31) (S := fun w' => w'.cell? ⟨gb112, 0, none⟩ = some (.int .i64 ((rd_T97 l0 x14_1).f0)) ∧ w'.cell? ⟨gb112, 1, none⟩ = some (.int .i64 ((rd_T97 l0 x14_1).f1)) ∧ w'.cell? ⟨gb112, 2, none⟩ = some (.int .i64 ((rd_T97 l0 x14_1).f2)) ∧ w'.cell? ⟨gb112, 3, none⟩ = some (.int .i64 ((rd_T97 l0 x14_1).f3))) (ds := []) #[false, false, false, false, false, false, false, false, false, false, false, false, false, false, false, false, false, false, false, false, false, false, false, false, false, false, false, false, false, false, false] (by kernel_rfl) rfl rfl ⟨(blk_cell BK112.out 0).trans rfl, (blk_cell BK112.out 1).trans rfl, (blk_cell BK112.out 2).trans rfl, (blk_cell BK112.out 3).trans rfl⟩ (fun hHeld => ?_); refine with_tabW sdiff_pieces.tab6 sdiff_pieces.bits6 (fun HT_ HW_ => ?_)
                 generalize w22.drew = w23 at HO_8 BK112 HB HR113 HR115 HR117 hHeld ⊢
                 refine pure_ (i := 0) (N := some 18) (v := ?_) (a' := ?_) #[true, false, false, false, false, false, false, false, false, false, false, false, false, false, false, false, false, false, false, false, false, false, false, false, false, false, false, false, false, false, false] rfl rfl (any_of HT_.out (by kernel_rfl)) (fun _ _ _ h => h) (Or.inl ⟨by rfl, ?_⟩) ?_ ?_
                 rotate_left
                 ·intro w'
                  go_simp
                  with_reducible rfl
                 rotate_left
                 ·simp only [Act.put, List.setIfInBounds_toArray, List.set_cons_zero, List.set_cons_succ, i64_w, i32_w]
                  rfl
                 refine pure_ (i := 1) (N := some 19) (v := ?_) (a' := ?_) #[true, true, false, false, false, false, false, false, false, false, false, false, false, false, false, false, false, false, false, false, false, false, false, false, false, false, false, false, false, false, false] rfl rfl (any_of HT_.out (by kernel_rfl)) (fun _ _ _ h => h) (Or.inl ⟨by rfl, ?_⟩) ?_ ?_
                 rotate_left
                 ·intro w'
                  go_simp
                  with_reducible rfl
                 rotate_left
                 ·simp only [Act.put, List.setIfInBounds_toArray, List.set_cons_zero, List.set_cons_succ, i64_w, i32_w]
                  rfl
                 refine pure_ (i := 2) (N := some 20) (v := ?_) (a' := ?_) #[true, true, true, false, false, false, false, false, false, false, false, false, false, false, false, false, false, false, false, false, false, false, false, false, false, false, false, false, false, false, false] rfl rfl (any_of HT_.out (by kernel_rfl)) (fun _ _ _ h => h) (Or.inl ⟨by rfl, ?_⟩) ?_ ?_
                 rotate_left
                 ·intro w'
                  go_simp
                  with_reducible rfl
                 rotate_left
                 ·simp only [Act.put, List.setIfInBounds_toArray, List.set_cons_zero, List.set_cons_succ, i64_w, i32_w]
                  rfl
                 refine pure_ (i := 3) (N := some 21) (v := ?_) (a' := ?_) #[true, true, true, true, false, false, false, false, false, false, false, false, false, false, false, false, false, false, false, false, false, false, false, false, false, false, false, false, false, false, false] rfl rfl (any_of HT_.out (by kernel_rfl)) (fun _ _ _ h => h) (Or.inl ⟨by rfl, ?_⟩) ?_ ?_
                 rotate_left
                 ·intro w'
                  go_simp
                  with_reducible rfl
                 rotate_left
                 ·simp only [Act.put, List.setIfInBounds_toArray, List.set_cons_zero, List.set_cons_succ, i64_w, i32_w]
                  rfl
                 refine pure_ (i := 7) (N := some 25) (v := ?_) (a' := ?_) #[true, true, true, true, false, false, false, true, false, false, false, false, false, false, false, false, false, false, false, false, false, false, false, false, false, false, false, false, false, false, false] rfl rfl (any_of HT_.out (by kernel_rfl)) (fun _ _ _ h => h) (Or.inl ⟨by rfl, ?_⟩) ?_ ?_
                 rotate_left
                 ·intro w'
                  go_simp
                  with_reducible rfl
                 rotate_left
                 ·simp only [Act.put, List.setIfInBounds_toArray, List.set_cons_zero, List.set_cons_succ, i64_w, i32_w]
                  rfl
                 refine pure_ (i := 8) (N := some 26) (v := ?_) (a' := ?_) #[true, true, true, true, false, false, false, true, true, false, false, false, false, false, false, false, false, false, false, false, false, false, false, false, false, false, false, false, false, false, false] rfl rfl (any_of HT_.out (by kernel_rfl)) (fun _ _ _ h => h) (Or.inl ⟨by rfl, ?_⟩) ?_ ?_
                 rotate_left
                 ·intro w'
                  go_simp
                  with_reducible rfl
                 rotate_left
                 ·simp only [Act.put, List.setIfInBounds_toArray, List.set_cons_zero, List.set_cons_succ, i64_w, i32_w]
                  rfl
                 refine pure_ (i := 10) (N := some 28) (v := ?_) (a' := ?_) #[true, true, true, true, false, false, false, true, true, false, true, false, false, false, false, false, false, false, false, false, false, false, false, false, false, false, false, false, false, false, false] rfl rfl (any_of HT_.out (by kernel_rfl)) (fun _ _ _ h => h) (Or.inl ⟨by rfl, ?_⟩) ?_ ?_
                 rotate_left
                 ·intro w'
                  go_simp
                  with_reducible rfl
                 rotate_left
                 ·simp only [Act.put, List.setIfInBounds_toArray, List.set_cons_zero, List.set_cons_succ, i64_w, i32_w]
                  rfl
                 refine pure_ (i := 12) (N := some 30) (v := ?_) (a' := ?_) #[true, true, true, true, false, false, false, true, true, false, true, false, true, false, false, false, false, false, false, false, false, false, false, false, false, false, false, false, false, false, false] rfl rfl (any_of HT_.out (by kernel_rfl)) (fun _ _ _ h => h) (Or.inl ⟨by rfl, ?_⟩) ?_ ?_
                 rotate_left
                 ·intro w'
                  go_simp
                  with_reducible rfl
                 rotate_left
                 ·simp only [Act.put, List.setIfInBounds_toArray, List.set_cons_zero, List.set_cons_succ, i64_w, i32_w]
                  rfl
                 refine pure_ (i := 17) (N := some 35) (v := ?_) (a' := ?_) #[true, true, true, true, false, false, false, true, true, false, true, false, true, false, false, false, false, true, false, false, false, false, false, false, false, false, false, false, false, false, false] rfl rfl (any_of HT_.out (by kernel_rfl)) (fun _ _ _ h => h) (Or.inl ⟨by rfl, ?_⟩) ?_ ?_
                 rotate_left
                 ·intro w'
                  go_simp
                  with_reducible rfl
                 rotate_left
                 ·simp only [Act.put, List.setIfInBounds_toArray, List.set_cons_zero, List.set_cons_succ, i64_w, i32_w]
                  rfl
                 refine pure_ (i := 18) (N := some 36) (v := ?_) (a' := ?_) #[true, true, true, true, false, false, false, true, true, false, true, false, true, false, false, false, false, true, true, false, false, false, false, false, false, false, false, false, false, false, false] rfl rfl (any_of HT_.out (by kernel_rfl)) (fun _ _ _ h => h) (Or.inl ⟨by rfl, ?_⟩) ?_ ?_
                 rotate_left
                 ·intro w'
                  go_simp
                  with_reducible rfl
                 rotate_left
                 ·simp only [Act.put, List.setIfInBounds_toArray, List.set_cons_zero, List.set_cons_succ, i64_w, i32_w]
                  rfl
                 refine pure_ (i := 20) (N := some 38) (v := ?_) (a' := ?_) #[true, true, true, true, false, false, false, true, true, false, true, false, true, false, false, false, false, true, true, false, true, false, false, false, false, false, false, false, false, false, false] rfl rfl (any_of HT_.out (by kernel_rfl)) (fun _ _ _ h => h) (Or.inl ⟨by rfl, ?_⟩) ?_ ?_
                 rotate_left
                 ·intro w'
                  go_simp
                  with_reducible rfl
                 rotate_left
                 ·simp only [Act.put, List.setIfInBounds_toArray, List.set_cons_zero, List.set_cons_succ, i64_w, i32_w]
                  rfl
                 refine pure_ (i := 22) (N := some 40) (v := ?_) (a' := ?_) #[true, true, true, true, false, false, false, true, true, false, true, false, true, false, false, false, false, true, true, false, true, false, true, false, false, false, false, false, false, false, false] rfl rfl (any_of HT_.out (by kernel_rfl)) (fun _ _ _ h => h) (Or.inl ⟨by rfl, ?_⟩) ?_ ?_
                 rotate_left
                 ·intro w'
                  go_simp
                  with_reducible rfl
                 rotate_left
                 ·simp only [Act.put, List.setIfInBounds_toArray, List.set_cons_zero, List.set_cons_succ, i64_w, i32_w]
                  rfl
                 refine take_ (i := 4) (N := some 22) (v := ?_) (a' := ?_) #[true, true, true, true, true, false, false, true, true, false, true, false, true, false, false, false, false, true, true, false, true, false, true, false, false, false, false, false, false, false, false] rfl rfl (take_ofW HT_.out HW_.out (by kernel_rfl)) (fun _ _ _ h => h) (Or.inl ⟨by rfl, ?_⟩) hHeld ?_ ?_
                 rotate_left
                 ·rintro w' ⟨s0, s1, s2, s3⟩
                  go_simp
                  with_reducible rfl
                 rotate_left
                 ·simp only [Act.put, List.setIfInBounds_toArray, List.set_cons_zero, List.set_cons_succ, i64_w, i32_w]
                  rfl
                 refine pure_ (i := 5) (N := some 23) (v := ?_) (a' := ?_) #[true, true, true, true, true, true, false, true, true, false, true, false, true, false, false, false, false, true, true, false, true, false, true, false, false, false, false, false, false, false, false] rfl rfl (any_of HT_.out (by kernel_rfl)) (fun _ _ _ h => h) (Or.inl ⟨by rfl, ?_⟩) ?_ ?_
                 rotate_left
                 ·intro w'
                  go_simp
                  with_reducible rfl
                 rotate_left
                 ·simp only [Act.put, List.setIfInBounds_toArray, List.set_cons_zero, List.set_cons_succ, i64_w, i32_w]
                  rfl
                 refine take_ (i := 9) (N := some 27) (v := ?_) (a' := ?_) #[true, true, true, true, true, true, false, true, true, true, true, false, true, false, false, false, false, true, true, false, true, false, true, false, false, false, false, false, false, false, false] rfl rfl (take_ofW HT_.out HW_.out (by kernel_rfl)) (fun _ _ _ h => h) (Or.inl ⟨by rfl, ?_⟩) hHeld ?_ ?_
                 rotate_left
                 ·rintro w' ⟨s0, s1, s2, s3⟩
                  go_simp
                  with_reducible rfl
                 rotate_left
                 ·simp only [Act.put, List.setIfInBounds_toArray, List.set_cons_zero, List.set_cons_succ, i64_w, i32_w]
                  rfl
                 refine take_ (i := 11) (N := some 29) (v := ?_) (a' := ?_) #[true, true, true, true, true, true, false, true, true, true, true, true, true, false, false, false, false, true, true, false, true, false, true, false, false, false, false, false, false, false, false] rfl rfl (take_ofW HT_.out HW_.out (by kernel_rfl)) (fun _ _ _ h => h) (Or.inl ⟨by rfl, ?_⟩) hHeld ?_ ?_
                 rotate_left
                 ·rintro w' ⟨s0, s1, s2, s3⟩
                  go_simp
                  with_reducible rfl
                 rotate_left
                 ·simp only [Act.put, List.setIfInBounds_toArray, List.set_cons_zero, List.set_cons_succ, i64_w, i32_w]
                  rfl
                 refine take_ (i := 13) (N := some 31) (v := ?_) (a' := ?_) #[true, true, true, true, true, true, false, true, true, true, true, true, true, true, false, false, false, true, true, false, true, false, true, false, false, false, false, false, false, false, false] rfl rfl (take_ofW HT_.out HW_.out (by kernel_rfl)) (fun _ _ _ h => h) (Or.inl ⟨by rfl, ?_⟩) hHeld ?_ ?_
                 rotate_left
                 ·rintro w' ⟨s0, s1, s2, s3⟩
                  go_simp
                  with_reducible rfl
                 rotate_left
                 ·simp only [Act.put, List.setIfInBounds_toArray, List.set_cons_zero, List.set_cons_succ, i64_w, i32_w]
                  rfl
                 refine pure_ (i := 14) (N := some 32) (v := ?_) (a' := ?_) #[true, true, true, true, true, true, false, true, true, true, true, true, true, true, true, false, false, true, true, false, true, false, true, false, false, false, false, false, false, false, false] rfl rfl (any_of HT_.out (by kernel_rfl)) (fun _ _ _ h => h) (Or.inl ⟨by rfl, ?_⟩) ?_ ?_
                 rotate_left
                 ·intro w'
                  go_simp
                  with_reducible rfl
                 rotate_left
                 ·simp only [Act.put, List.setIfInBounds_toArray, List.set_cons_zero, List.set_cons_succ, i64_w, i32_w]
                  rfl
                 refine pure_ (i := 15) (N := some 33) (v := ?_) (a' := ?_) #[true, true, true, true, true, true, false, true, true, true, true, true, true, true, true, true, false, true, true, false, true, false, true, false, false, false, false, false, false, false, false] rfl rfl (any_of HT_.out (by kernel_rfl)) (fun _ _ _ h => h) (Or.inl ⟨by rfl, ?_⟩) ?_ ?_
                 rotate_left
                 ·intro w'
                  go_simp
                  with_reducible rfl
                 rotate_left
                 ·simp only [Act.put, List.setIfInBounds_toArray, List.set_cons_zero, List.set_cons_succ, i64_w, i32_w]
                  rfl
                 refine take_ (i := 19) (N := some 37) (v := ?_) (a' := ?_) #[true, true, true, true, true, true, false, true, true, true, true, true, true, true, true, true, false, true, true, true, true, false, true, false, false, false, false, false, false, false, false] rfl rfl (take_ofW HT_.out HW_.out (by kernel_rfl)) (fun _ _ _ h => h) (Or.inl ⟨by rfl, ?_⟩) hHeld ?_ ?_
                 rotate_left
                 ·rintro w' ⟨s0, s1, s2, s3⟩
                  go_simp
                  with_reducible rfl
                 rotate_left
                 ·simp only [Act.put, List.setIfInBounds_toArray, List.set_cons_zero, List.set_cons_succ, i64_w, i32_w]
                  rfl
                 refine take_ (i := 21) (N := some 39) (v := ?_) (a' := ?_) #[true, true, true, true, true, true, false, true, true, true, true, true, true, true, true, true, false, true, true, true, true, true, true, false, false, false, false, false, false, false, false] rfl rfl (take_ofW HT_.out HW_.out (by kernel_rfl)) (fun _ _ _ h => h) (Or.inl ⟨by rfl, ?_⟩) hHeld ?_ ?_
                 rotate_left
                 ·rintro w' ⟨s0, s1, s2, s3⟩
                  go_simp
                  with_reducible rfl
                 rotate_left
                 ·simp only [Act.put, List.setIfInBounds_toArray, List.set_cons_zero, List.set_cons_succ, i64_w, i32_w]
                  rfl
                 refine take_ (i := 23) (N := some 41) (v := ?_) (a' := ?_) #[true, true, true, true, true, true, false, true, true, true, true, true, true, true, true, true, false, true, true, true, true, true, true, true, false, false, false, false, false, false, false] rfl rfl (take_ofW HT_.out HW_.out (by kernel_rfl)) (fun _ _ _ h => h) (Or.inl ⟨by rfl, ?_⟩) hHeld ?_ ?_
                 rotate_left
                 ·rintro w' ⟨s0, s1, s2, s3⟩
                  go_simp
                  with_reducible rfl
                 rotate_left
                 ·simp only [Act.put, List.setIfInBounds_toArray, List.set_cons_zero, List.set_cons_succ, i64_w, i32_w]
                  rfl
                 refine pure_ (i := 24) (N := some 42) (v := ?_) (a' := ?_) #[true, true, true, true, true, true, false, true, true, true, true, true, true, true, true, true, false, true, true, true, true, true, true, true, true, false, false, false, false, false, false] rfl rfl (any_of HT_.out (by kernel_rfl)) (fun _ _ _ h => h) (Or.inl ⟨by rfl, ?_⟩) ?_ ?_
                 rotate_left
                 ·intro w'
                  go_simp
                  with_reducible rfl
                 rotate_left
                 ·simp only [Act.put, List.setIfInBounds_toArray, List.set_cons_zero, List.set_cons_succ, i64_w, i32_w]
                  rfl
                 refine pure_ (i := 25) (N := some 43) (v := ?_) (a' := ?_) #[true, true, true, true, true, true, false, true, true, true, true, true, true, true, true, true, false, true, true, true, true, true, true, true, true, true, false, false, false, false, false] rfl rfl (any_of HT_.out (by kernel_rfl)) (fun _ _ _ h => h) (Or.inl ⟨by rfl, ?_⟩) ?_ ?_
                 rotate_left
                 ·intro w'
                  go_simp
                  with_reducible rfl
                 rotate_left
                 ·simp only [Act.put, List.setIfInBounds_toArray, List.set_cons_zero, List.set_cons_succ, i64_w, i32_w]
                  rfl
                 refine one_ (i := 6) (N := some 24) #[true, true, true, true, true, true, true, true, true, true, true, true, true, true, true, true, false, true, true, true, true, true, true, true, true, true, false, false, false, false, false] rfl rfl (one_of HT_.out (by kernel_rfl)) (by decide) (fun K hK => ?_)
                 refine goes_ Try.func48 (by kernel_rfl) rfl #[.slice A24 ((l1.take (((rd_T97 l0 x14_1).f0) : Int).toNat).drop (x9_1 : Int).toNat).length (c1 - x9_1.toNat)] (by rfl) rfl rfl (by (try simp only [List.map_toArray, List.map_cons, List.map_nil]); first | done | (rw [show ((l1.take (((rd_T97 l0 x14_1).f0) : Int).toNat).drop (x9_1 : Int).toNat).length = (((rd_T97 l0 x14_1).f0).toNat - x9_1.toNat) from (by rw [List.length_drop, List.length_take]; have h_ : (((rd_T97 l0 x14_1).f0) : Int) ≤ (l1.length : Int) := of_decide_eq_true (by first | (with_reducible assumption) | assumption); omega)] <;> rfl) | rfl | (simp only [List.length_drop, List.length_take]; rfl)) ?_
                 with_reducible refine (sdiff_all.calls k1 _ _ ((l1.take (((rd_T97 l0 x14_1).f0) : Int).toNat).drop (x9_1 : Int).toNat) t114 _ ?side1 ?side2 A10.out).mono ?_
                 (case side1 => repeat (first | exact (Kd.C_below HR113.out HB.out) | (with_reducible refine Kd.C_alloc ?_ _) | (with_reducible refine Kd.C_drewN ?_ _) | (with_reducible refine Kd.C_drew ?_)))
                 (case side2 => exact HC113.out)
                 rintro e w' ⟨rfl, ⟨nd, rfl⟩⟩
                 refine ⟨_, rfl, ?_⟩
                 refine hK.out _ _ ⟨(blk_cell BK112.out 0).trans rfl, (blk_cell BK112.out 1).trans rfl, (blk_cell BK112.out 2).trans rfl, (blk_cell BK112.out 3).trans rfl⟩ (fun hHeld => ?_)
                 clear hK K
                 refine norm_ (a' := ?_) ?_ ?_
                 rotate_left
                 ·show Act.put _ (some 24) _ = _
                  simp only [Act.put, List.setIfInBounds_toArray, List.set_cons_zero, List.set_cons_succ, i64_w, i32_w]
                  rfl
                 refine one_ (i := 16) (N := some 34) #[true, true, true, true, true, true, true, true, true, true, true, true, true, true, true, true, true, true, true, true, true, true, true, true, true, true, false, false, false, false, false] rfl rfl (one_of HT_.out (by kernel_rfl)) (by decide) (fun K hK => ?_)
                 refine goes_ Try.func48 (by kernel_rfl) rfl #[.slice A25 ((l1.take ((wrap64 (((rd_T97 l0 x14_1).f0) + ((rd_T97 l0 x14_1).f1))) : Int).toNat).drop (((rd_T97 l0 x14_1).f0) : Int).toNat).length (c1 - ((rd_T97 l0 x14_1).f0).toNat)] (by rfl) rfl rfl (by (try simp only [List.map_toArray, List.map_cons, List.map_nil]); first | done | (rw [show ((l1.take ((wrap64 (((rd_T97 l0 x14_1).f0) + ((rd_T97 l0 x14_1).f1))) : Int).toNat).drop (((rd_T97 l0 x14_1).f0) : Int).toNat).length = ((wrap64 (((rd_T97 l0 x14_1).f0) + ((rd_T97 l0 x14_1).f1))).toNat - ((rd_T97 l0 x14_1).f0).toNat) from (by rw [List.length_drop, List.length_take]; have h_ : ((wrap64 (((rd_T97 l0 x14_1).f0) + ((rd_T97 l0 x14_1).f1))) : Int) ≤ (l1.length : Int) := of_decide_eq_true (by first | (with_reducible assumption) | assumption); omega)] <;> rfl) | rfl | (simp only [List.length_drop, List.length_take]; rfl)) ?_
                 with_reducible refine (sdiff_all.calls k1 _ _ ((l1.take ((wrap64 (((rd_T97 l0 x14_1).f0) + ((rd_T97 l0 x14_1).f1))) : Int).toNat).drop (((rd_T97 l0 x14_1).f0) : Int).toNat) t116 _ ?side1 ?side2 A14.out).mono ?_
                 (case side1 => repeat (first | exact (Kd.C_below HR115.out (by repeat (first | (with_reducible first | exact HB.out | apply below_alloc | apply pw_below_drewN | apply below_drew1 | refine below_set ?_ GE112.out) | exact HB.out))) | (with_reducible refine Kd.C_alloc ?_ _) | (with_reducible refine Kd.C_drewN ?_ _) | (with_reducible refine Kd.C_drew ?_)))
                 (case side2 => exact HC115.out)
                 rintro e w' ⟨rfl, ⟨nd, rfl⟩⟩
                 refine ⟨_, rfl, ?_⟩
                 refine hK.out _ _ ⟨(blk_cell BK112.out 0).trans rfl, (blk_cell BK112.out 1).trans rfl, (blk_cell BK112.out 2).trans rfl, (blk_cell BK112.out 3).trans rfl⟩ (fun hHeld => ?_)
                 clear hK K
                 refine norm_ (a' := ?_) ?_ ?_
                 rotate_left
                 ·show Act.put _ (some 34) _ = _
                  simp only [Act.put, List.setIfInBounds_toArray, List.set_cons_zero, List.set_cons_succ, i64_w, i32_w]
                  rfl
                 refine one_ (i := 26) (N := some 44) #[true, true, true, true, true, true, true, true, true, true, true, true, true, true, true, true, true, true, true, true, true, true, true, true, true, true, true, false, false, false, false] rfl rfl (one_of HT_.out (by kernel_rfl)) (by decide) (fun K hK => ?_)
                 refine goes_ Try.func48 (by kernel_rfl) rfl #[.slice A26 ((l2.take ((wrap64 (((rd_T97 l0 x14_1).f2) + ((rd_T97 l0 x14_1).f3))) : Int).toNat).drop (((rd_T97 l0 x14_1).f2) : Int).toNat).length (c2 - ((rd_T97 l0 x14_1).f2).toNat)] (by rfl) rfl rfl (by (try simp only [List.map_toArray, List.map_cons, List.map_nil]); first | done | (rw [show ((l2.take ((wrap64 (((rd_T97 l0 x14_1).f2) + ((rd_T97 l0 x14_1).f3))) : Int).toNat).drop (((rd_T97 l0 x14_1).f2) : Int).toNat).length = ((wrap64 (((rd_T97 l0 x14_1).f2) + ((rd_T97 l0 x14_1).f3))).toNat - ((rd_T97 l0 x14_1).f2).toNat) from (by rw [List.length_drop, List.length_take]; have h_ : ((wrap64 (((rd_T97 l0 x14_1).f2) + ((rd_T97 l0 x14_1).f3))) : Int) ≤ (l2.length : Int) := of_decide_eq_true (by first | (with_reducible assumption) | assumption); omega)] <;> rfl) | rfl | (simp only [List.length_drop, List.length_take]; rfl)) ?_
                 with_reducible refine (sdiff_all.calls k1 _ _ ((l2.take ((wrap64 (((rd_T97 l0 x14_1).f2) + ((rd_T97 l0 x14_1).f3))) : Int).toNat).drop (((rd_T97 l0 x14_1).f2) : Int).toNat) t118 _ ?side1 ?side2 A18.out).mono ?_
                 (case side1 => repeat (first | exact (Kd.C_below HR117.out (by repeat (first | (with_reducible first | exact HB.out | apply below_alloc | apply pw_below_drewN | apply below_drew1 | refine below_set ?_ GE112.out) | exact HB.out))) | (with_reducible refine Kd.C_alloc ?_ _) | (with_reducible refine Kd.C_drewN ?_ _) | (with_reducible refine Kd.C_drew ?_)))
                 (case side2 => exact HC117.out)
                 rintro e w' ⟨rfl, ⟨nd, rfl⟩⟩
                 refine ⟨_, rfl, ?_⟩
                 refine hK.out _ _ ⟨(blk_cell BK112.out 0).trans rfl, (blk_cell BK112.out 1).trans rfl, (blk_cell BK112.out 2).trans rfl, (blk_cell BK112.out 3).trans rfl⟩ (fun hHeld => ?_)
                 clear hK K
                 refine norm_ (a' := ?_) ?_ ?_
                 rotate_left
                 ·show Act.put _ (some 44) _ = _
                  simp only [Act.put, List.setIfInBounds_toArray, List.set_cons_zero, List.set_cons_succ, i64_w, i32_w]
                  rfl
                 refine pure_ (i := 27) (N := some 45) (v := ?_) (a' := ?_) #[true, true, true, true, true, true, true, true, true, true, true, true, true, true, true, true, true, true, true, true, true, true, true, true, true, true, true, true, false, false, false] rfl rfl (any_of HT_.out (by kernel_rfl)) (fun _ _ _ h => h) (Or.inl ⟨by rfl, ?_⟩) ?_ ?_
                 rotate_left
                 ·intro w'
                  go_simp
                  with_reducible rfl
                 rotate_left
                 ·simp only [Act.put, List.setIfInBounds_toArray, List.set_cons_zero, List.set_cons_succ, i64_w, i32_w]
                  rfl
                 refine one_ (i := 28) (N := some 46) #[true, true, true, true, true, true, true, true, true, true, true, true, true, true, true, true, true, true, true, true, true, true, true, true, true, true, true, true, true, false, false] rfl rfl (one_of HT_.out (by kernel_rfl)) (by decide) (fun K hK => ?_)
                 refine value_ (w1 := ?_) (v := ?_) (by rfl) rfl ?_ ?_
                 rotate_left 2
                 ·go_simp
                  constructor
                  ·rfl
                  ·rfl
                 refine hK.out _ _ ⟨(blk_cell (blk_alloc BK112.out _) 0).trans rfl, (blk_cell (blk_alloc BK112.out _) 1).trans rfl, (blk_cell (blk_alloc BK112.out _) 2).trans rfl, (blk_cell (blk_alloc BK112.out _) 3).trans rfl⟩ (fun hHeld => ?_)
                 clear hK K
                 refine norm_ (a' := ?_) ?_ ?_
                 rotate_left
                 ·show Act.put _ (some 46) _ = _
                  simp only [Act.put, List.setIfInBounds_toArray, List.set_cons_zero, List.set_cons_succ, i64_w, i32_w]
                  rfl
                 refine one_ (i := 29) (N := some 47) #[true, true, true, true, true, true, true, true, true, true, true, true, true, true, true, true, true, true, true, true, true, true, true, true, true, true, true, true, true, true, false] rfl rfl (one_of HT_.out (by kernel_rfl)) (by decide) (fun K hK => ?_)
                 refine Kd.R_append_step k74 (w0 := w) w.heap.size (by rfl) (.tmp 18) (.tmp 46) 62 74 (.agg #[(.string ⟨#[]⟩), (.string ⟨#[]⟩), (.string ⟨#[]⟩)]) 48 rfl Try.underlying62 info74 rfl (by decide) (by omega) u8 x8_1 (⟨t114, t116, t118⟩ : S74) [.string t114, .string t116, .string t118] (fun _ => True) (fun _ => False) rfl rfl ?aP (fun _ hk => hk.elim) ?aF ?aO ?aB ?aS ?aL ?_
                 (case aP => exact k74_mkM _ _ _ (⟨t114, t116, t118⟩ : S74))
                 (case aB => exact (by repeat (first | (with_reducible first | exact HB.out | apply below_alloc | apply pw_below_drewN | apply below_drew1 | refine below_set ?_ GE112.out) | exact HB.out)))
                 (case aF => exact (fun _ _ => trivial))
                 (case aO => exact (by (with_reducible repeat (first | apply Kd.R_alloc | apply Kd.R_drewN | apply Kd.R_drew)); exact HO_8.out))
                 (case aS => exact (below_size (by repeat (first | (with_reducible first | exact HB.out | apply below_alloc | apply pw_below_drewN | apply below_drew1 | refine below_set ?_ GE112.out) | exact HB.out))))
                 (case aL => have := LMc19.out; omega)
                 intro v120 w27 ho hb hg hat
                 rw [← Ny119.out] at ho
                 have n0_ := Aside0.mk (blk_grown (g := gb112) (o := .cells #[.int .i64 ((rd_T97 l0 x14_1).f0), .int .i64 ((rd_T97 l0 x14_1).f1), .int .i64 ((rd_T97 l0 x14_1).f2), .int .i64 ((rd_T97 l0 x14_1).f3)] 97 (0, 0)) (by (with_reducible repeat (first | refine blk_drewN ?_ _ | refine blk_drew ?_ | refine blk_alloc ?_ _)); exact BK112.out) hg (Kd.R_ne HO_8.out BK112.out (by decide)))
                 have n1_ := Aside0.mk (hb)
                 have n2_ := Aside0.mk (ho)
                 clear BK112
                 clear HB
                 clear HO_8
                 have BK112 := n0_
                 have HB := n1_
                 have HO121 := n2_
                 clear n0_ n1_ n2_
                 clear ho hb hg hat
                 refine hK.out _ _ ⟨(blk_cell BK112.out 0).trans rfl, (blk_cell BK112.out 1).trans rfl, (blk_cell BK112.out 2).trans rfl, (blk_cell BK112.out 3).trans rfl⟩ (fun hHeld => ?_)
                 clear hK K
                 refine norm_ (a' := ?_) ?_ ?_
                 rotate_left
                 ·show Act.put _ (some 47) _ = _
                  simp only [Act.put, List.setIfInBounds_toArray, List.set_cons_zero, List.set_cons_succ, i64_w, i32_w]
                  rfl
                 refine pure_ (i := 30) (N := some 8) (v := ?_) (a' := ?_) #[true, true, true, true, true, true, true, true, true, true, true, true, true, true, true, true, true, true, true, true, true, true, true, true, true, true, true, true, true, true, true] rfl rfl (any_of HT_.out (by kernel_rfl)) (fun _ _ _ h => h) (Or.inl ⟨by rfl, ?_⟩) ?_ ?_
                 rotate_left
                 ·intro w'
                  go_simp
                  with_reducible rfl
                 rotate_left
                 ·simp only [Act.put, List.setIfInBounds_toArray, List.set_cons_zero, List.set_cons_succ, i64_w, i32_w]
                  rfl
                 refine done_ (done_of HT_.out (by kernel_rfl)) ?_
                 have hcz28_0 : w27.cell? ⟨gb112, 0, none⟩ = some (.int .i64 ((rd_T97 l0 x14_1).f0)) := (blk_cell BK112.out 0).trans rfl
                 have hcz28_1 : w27.cell? ⟨gb112, 1, none⟩ = some (.int .i64 ((rd_T97 l0 x14_1).f1)) := (blk_cell BK112.out 1).trans rfl
                 have hcz28_2 : w27.cell? ⟨gb112, 2, none⟩ = some (.int .i64 ((rd_T97 l0 x14_1).f2)) := (blk_cell BK112.out 2).trans rfl
                 have hcz28_3 : w27.cell? ⟨gb112, 3, none⟩ = some (.int .i64 ((rd_T97 l0 x14_1).f3)) := (blk_cell BK112.out 3).trans rfl
                 have hfz28_0 := blk_frozen BK112.out 0
                 have hfz28_1 := blk_frozen BK112.out 1
                 have hfz28_2 := blk_frozen BK112.out 2
                 have hfz28_3 := blk_frozen BK112.out 3
                 try go_wp2
                 go_roundg k1
                 case measure => have := HK1.out; omega
                 case rel => exact ⟨(y119), (wrap64 (((rd_T97 l0 x14_1).f0) + ((rd_T97 l0 x14_1).f1))), (wrap64 (x14_1 + 1)), (by first | rfl | (simp; done) | (simp [*]; done)), (by first | rfl | (simp; done) | (simp [*]; done)), H', ⟨by have := HK1.out; omega⟩, ⟨by (with_reducible repeat (first | apply Kd.R_alloc | apply Kd.R_drewN | apply Kd.R_drew)); exact HO121.out⟩, ⟨by repeat (first | (with_reducible first | exact HB.out | apply below_alloc | apply pw_below_drewN | apply below_drew1 | refine below_set ?_ GE112.out) | exact HB.out)⟩⟩
                ·rw [if_neg c19] at H
                 exact absurd H (by simp)
               ·rw [if_neg c17] at H
                exact absurd H (by simp)
              ·rw [if_neg c16] at H
               exact absurd H (by simp)
             ·rw [if_neg c15] at H
              exact absurd H (by simp)
            ·rw [if_neg c13] at H
             exact absurd H (by simp)
           ·rw [if_neg c12] at H
            exact absurd H (by simp)
          ·rw [if_neg c11] at H
           exact absurd H (by simp)
         ·rw [if_neg c9] at H
          exact absurd H (by simp)
        ·rw [if_neg c8] at H
         exact absurd H (by simp)
       ·rw [if_neg c7] at H
        exact absurd H (by simp)
      ·rw [if_neg c6] at H
       exact absurd H (by simp)
     ·rw [if_neg c5] at H
      exact absurd H (by simp)
    ·rw [if_neg c4] at H
     have c4b0 : decide (x14_1 < (l0.length : Int)) = false := decide_eq_false c4
     clear c4
     by_cases c29 : 0 ≤ x9_1
     ·rw [if_pos c29] at H
      have c29b0 := eq_true c29
      have c29b1 : decide (0 ≤ x9_1) = true := decide_eq_true c29
      clear c29
      by_cases c30 : x9_1 ≤ (l1.length : Int)
      ·rw [if_pos c30] at H
       have c30b0 := eq_true c30
       have c30b1 : decide (x9_1 ≤ (l1.length : Int)) = true := decide_eq_true c30
       clear c30
       replace H := Option.bind_eq_some_iff.mp H
       obtain ⟨t123, A310, H⟩ := H
       replace H : (some (x8_1, t123)) = some (r1, r2) := H
       have A31 := Aside0.mk A310
       clear A310
       simp only [Option.some.injEq, Prod.mk.injEq] at H
       obtain ⟨rfl, rfl⟩ := H
       obtain ⟨i032, hi032, _, hsz32, _⟩ := info_parts info9
       obtain ⟨A32, hcut32, hA32, hC32⟩ := print_drop_of (P := Try.prog) Value.string (⟨#[]⟩ : ByteArray) 23 9 .i64 Try.underlying23 hi032 hsz32 A1 c1 l1 x9_1 (of_decide_eq_true (by first | (with_reducible assumption) | assumption)) (of_decide_eq_true (by first | (with_reducible assumption) | assumption)) HC1.out
       have HR122 := Aside0.mk (Kd.C_of_reads (h1 := fun _ => rfl) (hA32 _ (Kd.reads_of_C HR1.out)))
       have HC122 := Aside0.mk hC32
       clear hA32 hC32 hi032 hsz32
       go_wp2_with (first | ((with_reducible refine gate_callee (f := 48) rfl ?_); refine goesL_ (some 58) rfl rfl Try.func48 (by kernel_rfl) rfl #[.slice A32 (l1.drop (x9_1 : Int).toNat).length (c1 - x9_1.toNat)] rfl (by (try simp only [List.map_toArray, List.map_cons, List.map_nil]); first | done | (rw [show (l1.drop (x9_1 : Int).toNat).length = (l1.length - x9_1.toNat) from List.length_drop] <;> rfl) | rfl | (simp only [List.length_drop, List.length_take]; rfl)) ?_; (with_reducible refine (sdiff_all.calls k1 _ _ (l1.drop (x9_1 : Int).toNat) t123 _ ?side1 ?side2 A31.out).mono ?_); (case side1 => repeat (first | exact (Kd.C_below HR122.out HB.out) | (with_reducible refine Kd.C_alloc ?_ _) | (with_reducible refine Kd.C_drewN ?_ _) | (with_reducible refine Kd.C_drew ?_))); (case side2 => exact HC122.out); rintro e w' ⟨rfl, ⟨nd, rfl⟩⟩; refine ⟨_, rfl, ?_⟩))
       go_ret2
       exact ⟨_, by first | rfl | (simp [errW_none, errW_some] <;> rfl) | (simp [*, errW_none, errW_some] <;> rfl), by (with_reducible repeat (first | apply Kd.R_alloc | apply Kd.R_drewN | apply Kd.R_drew)); exact HO_8.out, by repeat (first | (with_reducible first | exact HB.out | apply below_alloc | apply pw_below_drewN | apply below_drew1) | exact HB.out)⟩
      ·rw [if_neg c30] at H
       exact absurd H (by simp)
     ·rw [if_neg c29] at H
      exact absurd H (by simp)
end Go.Proofs.Ytglffceopijogaa.X
