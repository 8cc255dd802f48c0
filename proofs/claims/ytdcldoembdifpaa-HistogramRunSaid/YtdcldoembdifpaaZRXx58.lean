-- printed by xprint.py, a program of this session's own over the kit's print
import Derived.Test.YtdcldoembdifpaaZRXx58D
import Derived.Test.YtdcldoembdifpaaZRXx0
import Derived.Test.YtdcldoembdifpaaZRXx1
import Derived.Test.YtdcldoembdifpaaZRXx3
import Derived.Test.YtdcldoembdifpaaZRXx8
import Derived.Test.YtdcldoembdifpaaZRXx57
import Derived.Test.YtdcldoembdifpaaZRWA
namespace Go.Proofs.Ytdcldoembdifpaa.X
open Go.RowKit Go.Proofs.YtdcldoembdifpaaW.PrintWords Go.Proofs.YtdcldoembdifpaaW.PrintLast Go.Proofs.YtdcldoembdifpaaW.PrintMore
attribute [local go_sem] max2_int min2_int max_two min_two max_three min_three max_four min_four   -- for this text's walks alone
open Go.Proofs.YtdcldoembdifpaaW.HandWords Go.Proofs.YtdcldoembdifpaaW.HandShort
set_option linter.unusedVariables false
set_option linter.unusedSimpArgs false
attribute [local go_sem high] eqA27
set_option maxHeartbeats 8000000 in
set_option maxRecDepth 100000 in
theorem redlinelaw08_HistogramRun.calls (k : Nat) (A0 : Option Addr) (c0 : Nat) (l0 : List Int) (A1 : Option Addr) (c1 : Nat) (l1 : List Int) (r : Bool) (w : World) (hr0 : Kd.C (Kd.int .i64) w A0 l0.length l0) (hc0 : l0.length ≤ c0) (hr1 : Kd.C (Kd.int .i64) w A1 l1.length l1) (hc1 : l1.length ≤ c1) (h : redlinelaw08_HistogramRun.f k l0 l1 = some r) :
    Calls Try.prog 13 #[.slice A0 l0.length c0, .slice A1 l1.length c1] w fun e w' => e = .returned (.bool r) ∧ Below w.heap.size w w' := by
  have hu27 := Try.underlying27
  have HR0 := Aside0.mk hr0
  have HC0 := Aside0.mk hc0
  clear hr0 hc0
  have HR1 := Aside0.mk hr1
  have HC1 := Aside0.mk hc1
  clear hr1 hc1
  have HB := Aside0.mk (Below.refl w.heap.size w)
  have H : ((redlinelaw08_works.f k).bind fun t695 => (if t695 = true then (if (l0.length : Int) > 200 then (redlinelaw08_HistogramRun.j0 k l0 l1 true) else (redlinelaw08_HistogramRun.j0 k l0 l1 (decide ((l1.length : Int) > 200)))) else (some false))) = some r := h
  clear h
  replace H := Option.bind_eq_some_iff.mp H
  obtain ⟨t695, A30, H⟩ := H
  replace H : (if t695 = true then (if (l0.length : Int) > 200 then (redlinelaw08_HistogramRun.j0 k l0 l1 true) else (redlinelaw08_HistogramRun.j0 k l0 l1 (decide ((l1.length : Int) > 200)))) else (some false)) = some r := H
  have A3 := Aside0.mk A30
  clear A30
  by_cases c4 : t695 = true
  ·subst c4
   have H1 : (if (l0.length : Int) > 200 then (redlinelaw08_HistogramRun.j0 k l0 l1 true) else (redlinelaw08_HistogramRun.j0 k l0 l1 (decide ((l1.length : Int) > 200)))) = some r := by rw [if_pos rfl] at H; exact H
   clear H
   have H := H1
   clear H1
   have HC5 := Aside0.mk H
   clear H
   go_enter Try.func13, Try.ntmps13
   go_upto_region 3 with (first | ((with_reducible refine gate_callee (f := 34) rfl ?_); refine goesL_ (some 15) rfl rfl Try.func34 (by kernel_rfl) rfl #[] rfl (by (try simp only [List.map_toArray, List.map_cons, List.map_nil]); first | done | rfl | (simp only [List.length_drop, List.length_take]; rfl)) ?_; (with_reducible refine (redlinelaw08_works.calls k  true _ A3.out).mono ?_); rintro e w6 ⟨rfl, hb⟩; refine ⟨_, rfl, ?_⟩; have n0_ := Aside0.mk (below_step (by repeat (first | (with_reducible first | exact HB.out | apply below_alloc | apply pw_below_drewN | apply below_drew1) | exact HB.out)) hb); clear HB; have HB := n0_; clear n0_; (try clear hb); (try clear hb2); (try clear hk); (try clear hi)))
   (try simp only [Act.put, List.setIfInBounds_toArray, List.set_cons_zero, List.set_cons_succ])
   go_cut [24] (fun v24 wc => ∃ (kq : Nat) (x24_4 : Bool), v24 = .bool x24_4 ∧ Aside0 (redlinelaw08_HistogramRun.j0 kq l0 l1 x24_4 = some r) ∧ Aside0 (kq ≤ k) ∧ Aside0 (Below w.heap.size w wc))
   case first =>
    have H := HC5.out
    clear HC5
    by_cases c7 : (l0.length : Int) > 200
    ·rw [if_pos c7] at H
     have c7b0 : decide (200 < (l0.length : Int)) = true := decide_eq_true c7
     have c7b1 : decide (200 < l0.length) = true := decide_eq_true (by omega)
     clear c7
     (first | rw [c7b0] | rw [c7b1] | (simp only [i64_w, i32_w]; rw [c7b0]) | skip)
     have H' := Aside0.mk H
     clear H
     go_wp2
     go_meet
     case rel => exact ⟨_, (true), (by first | rfl | (simp; done) | (simp [*]; done)), H', ⟨by first | omega | exact Nat.le_refl _⟩, ⟨by repeat (first | (with_reducible first | exact HB.out | apply below_alloc | apply pw_below_drewN | apply below_drew1) | exact HB.out)⟩⟩
    ·rw [if_neg c7] at H
     have c7b0 : decide (200 < (l0.length : Int)) = false := decide_eq_false c7
     have c7b1 : decide (200 < l0.length) = false := decide_eq_false (by omega)
     clear c7
     (first | rw [c7b0] | rw [c7b1] | (simp only [i64_w, i32_w]; rw [c7b0]) | skip)
     have H' := Aside0.mk H
     clear H
     go_wp2
     go_meet
     case rel => exact ⟨_, (decide ((l1.length : Int) > 200)), (by first | rfl | (simp; done) | (simp [*]; done)), H', ⟨by first | omega | exact Nat.le_refl _⟩, ⟨by repeat (first | (with_reducible first | exact HB.out | apply below_alloc | apply pw_below_drewN | apply below_drew1) | exact HB.out)⟩⟩
   case rest =>
    clear HC5
    try clear c1
    try clear p2
    try clear c3
    try clear c4
    try clear c7
    try clear c7b0
    try clear c7b1
    obtain ⟨kq, x24_4, rfl, HA, HJ4, HB⟩ := hcut
    cases kq with
    | zero => exact absurd HA.out (by simp [redlinelaw08_HistogramRun.j0])
    | succ kj4 =>
     have H := HA.out
     clear HA
     simp only [redlinelaw08_HistogramRun.j0] at H
     by_cases c8 : x24_4 = true
     ·subst c8
      have H1 : (some true) = some r := by rw [if_pos rfl] at H; exact H
      clear H
      have H := H1
      clear H1
      obtain rfl := Option.some.inj H
      go_wp2
      go_ret
      exact ⟨by first | rfl | (simp [errW_none, errW_some] <;> rfl) | (simp [*, errW_none, errW_some] <;> rfl), by repeat (first | (with_reducible first | exact HB.out | apply below_alloc | apply pw_below_drewN | apply below_drew1) | exact HB.out)⟩
     ·replace c8 := Bool.eq_false_iff.mpr c8
      subst c8
      have H1 : ((histogram_Best.f l0 l1).bind fun bt696 => (redlinelaw08_HistogramRun.l0 kj4 l0 l1 bt696.2.2.2.2 (wrap64 ((l0.length : Int) + 1)) 0 bt696.1 bt696.2.1 bt696.2.2.1 bt696.2.2.2.1)) = some r := by rw [if_neg (show ¬ (false = true) by decide)] at H; exact H
      clear H
      have H := H1
      clear H1
      replace H := Option.bind_eq_some_iff.mp H
      obtain ⟨⟨t696, t697, t698, t699, t700⟩, A90, H⟩ := H
      replace H : (redlinelaw08_HistogramRun.l0 kj4 l0 l1 t700 (wrap64 ((l0.length : Int) + 1)) 0 t696 t697 t698 t699) = some r := H
      have A9 := Aside0.mk A90
      clear A90
      have H' := Aside0.mk H
      clear H
      go_wp2_with (first | ((with_reducible refine gate_callee (f := 18) rfl ?_); refine goesL_ (some 28) rfl rfl Try.func18 (by kernel_rfl) rfl #[.slice A0 l0.length c0, .slice A1 l1.length c1] rfl (by (try simp only [List.map_toArray, List.map_cons, List.map_nil]); first | done | rfl | (simp only [List.length_drop, List.length_take]; rfl)) ?_; (with_reducible refine (histogram_Best.calls _ _ l0 _ _ l1 t696 t697 t698 t699 t700 _ ?side1 ?side2 ?side3 ?side4 A9.out).mono ?_); (case side1 => repeat (first | exact (Kd.C_below HR0.out HB.out) | (with_reducible refine Kd.C_alloc ?_ _) | (with_reducible refine Kd.C_drewN ?_ _) | (with_reducible refine Kd.C_drew ?_))); (case side2 => exact HC0.out); (case side3 => repeat (first | exact (Kd.C_below HR1.out HB.out) | (with_reducible refine Kd.C_alloc ?_ _) | (with_reducible refine Kd.C_drewN ?_ _) | (with_reducible refine Kd.C_drew ?_))); (case side4 => exact HC1.out); rintro e w10 ⟨rfl, hb⟩; refine ⟨_, rfl, ?_⟩; have n0_ := Aside0.mk (below_step (by repeat (first | (with_reducible first | exact HB.out | apply below_alloc | apply pw_below_drewN | apply below_drew1) | exact HB.out)) hb); clear HB; have HB := n0_; clear n0_; (try clear hb); (try clear hb2); (try clear hk); (try clear hi)) | ((with_reducible refine gate_dst (N := 5) rfl ?_); (try (refine gate_guard (by rfl) ?_; dsimp only)); refine box_event ?hg (N := 5) ?hd (cs := #[.int .i64 0, .int .i64 0, .int .i64 0, .int .i64 0]) (t := 27) ?hr ?_; (case hd => rfl); (case hg => rfl); (case hr => first | (go_simp; done) | (go_simp; rfl)); intro gb701 hg w11 hbox hb; have n0_ := Aside0.mk (below_step (by repeat (first | (with_reducible first | exact HB.out | apply below_alloc | apply pw_below_drewN | apply below_drew1) | exact HB.out)) hb); have n1_ := Aside0.mk (hbox); have n2_ := Aside0.mk ((by rw [hg]; exact (below_size (by repeat (first | (with_reducible first | exact HB.out | apply below_alloc | apply pw_below_drewN | apply below_drew1) | exact HB.out))) : w.heap.size ≤ gb701)); have n3_ := Aside0.mk ((by rw [hg]; exact (below_size (by repeat (first | (with_reducible first | exact HB.out | apply below_alloc | apply pw_below_drewN | apply below_drew1) | exact HB.out))) : w.heap.size ≤ gb701)); clear HB; have HB := n0_; have BK701 := n1_; have GW701 := n2_; have GE701 := n3_; clear n0_ n1_ n2_ n3_; clear hb hbox hg; have hcz12_0 : w11.cell? ⟨gb701, 0, none⟩ = some (.int .i64 0) := (blk_cell BK701.out 0).trans rfl; have hcz12_1 : w11.cell? ⟨gb701, 1, none⟩ = some (.int .i64 0) := (blk_cell BK701.out 1).trans rfl; have hcz12_2 : w11.cell? ⟨gb701, 2, none⟩ = some (.int .i64 0) := (blk_cell BK701.out 2).trans rfl; have hcz12_3 : w11.cell? ⟨gb701, 3, none⟩ = some (.int .i64 0) := (blk_cell BK701.out 3).trans rfl; have hfz12_0 := blk_frozen BK701.out 0; have hfz12_1 := blk_frozen BK701.out 1; have hfz12_2 := blk_frozen BK701.out 2; have hfz12_3 := blk_frozen BK701.out 3))
      go_loopg [7, 8] kj4 (fun kq v7 v8 w' => ∃ (x7_2 : Int) (x8_2 : Int), v7 = .int .i64 x7_2 ∧ v8 = .int .i64 x8_2 ∧ Aside0 (redlinelaw08_HistogramRun.l0 kq l0 l1 t700 x7_2 x8_2 t696 t697 t698 t699 = some r) ∧ Aside0 (kq ≤ kj4) ∧ Aside0 (w'.heap[gb701]? = some (.cells #[.int .i64 t696, .int .i64 t697, .int .i64 t698, .int .i64 t699] 27 (0, 0))) ∧ Aside0 (Below w.heap.size w w'))
      case atStart => exact ⟨(wrap64 ((l0.length : Int) + 1)), (0), (by first | rfl | (simp; done) | (simp [*]; done)), (by first | rfl | (simp; done) | (simp [*]; done)), H', ⟨Nat.le_refl _⟩, ⟨by (with_reducible repeat (first | refine blk_drewN ?_ _ | refine blk_drew ?_ | refine blk_alloc ?_ _)); refine blk_put (cs := #[.int .i64 t696, .int .i64 t697, .int .i64 t698, .int .i64 0]) ?_ 3 _ rfl; (with_reducible repeat (first | refine blk_drewN ?_ _ | refine blk_drew ?_ | refine blk_alloc ?_ _)); refine blk_put (cs := #[.int .i64 t696, .int .i64 t697, .int .i64 0, .int .i64 0]) ?_ 2 _ rfl; (with_reducible repeat (first | refine blk_drewN ?_ _ | refine blk_drew ?_ | refine blk_alloc ?_ _)); refine blk_put (cs := #[.int .i64 t696, .int .i64 0, .int .i64 0, .int .i64 0]) ?_ 1 _ rfl; (with_reducible repeat (first | refine blk_drewN ?_ _ | refine blk_drew ?_ | refine blk_alloc ?_ _)); refine blk_put (cs := #[.int .i64 0, .int .i64 0, .int .i64 0, .int .i64 0]) ?_ 0 _ rfl; (with_reducible repeat (first | refine blk_drewN ?_ _ | refine blk_drew ?_ | refine blk_alloc ?_ _)); exact BK701.out⟩, ⟨by repeat (first | (with_reducible first | exact HB.out | apply below_alloc | apply pw_below_drewN | apply below_drew1 | refine below_set ?_ GE701.out) | exact HB.out)⟩⟩
      case round =>
       clear H'
       try clear c1
       try clear p2
       try clear c3
       try clear c4
       try clear p6
       try clear c7
       try clear c7b0
       try clear c7b1
       try clear c8
       try clear hcz12_0
       try clear hcz12_1
       try clear hcz12_2
       try clear hcz12_3
       try clear hfz12_0
       try clear hfz12_1
       try clear hfz12_2
       try clear hfz12_3
       try clear p2
       obtain ⟨x7_2, x8_2, rfl, rfl, HA, HK2, BK701, HB⟩ := hrel
       cases gk with
       | zero => exact absurd HA.out (by simp [redlinelaw08_HistogramRun.l0])
       | succ k2 =>
        have H := HA.out
        clear HA
        simp only [redlinelaw08_HistogramRun.l0] at H
        by_cases c13 : x8_2 < (l0.length : Int)
        ·rw [if_pos c13] at H
         have c13b0 : decide (x8_2 < (l0.length : Int)) = true := decide_eq_true c13
         clear c13
         have HC14 := Aside0.mk H
         clear H
         go_upto_block 1 with (fail)
         go_cut [7] (fun v7 wc => ∃ (kq : Nat) (x7_13 : Int), v7 = .int .i64 x7_13 ∧ Aside0 (redlinelaw08_HistogramRun.j6 kq l0 l1 t700 x7_13 x8_2 t696 t697 t698 t699 = some r) ∧ Aside0 (kq ≤ k2) ∧ Aside0 (wc.heap[gb701]? = some (.cells #[.int .i64 t696, .int .i64 t697, .int .i64 t698, .int .i64 t699] 27 (0, 0))) ∧ Aside0 (Below w.heap.size w wc))
         case first =>
          have H := HC14.out
          clear HC14
          have H' := Aside0.mk H
          clear H
          go_wp2
          go_loopg [9, 11] k2 (fun kq v9 v11 w' => ∃ (x9_3 : Int) (x11_3 : Int), v9 = .int .i64 x9_3 ∧ v11 = .int .i64 x11_3 ∧ Aside0 (redlinelaw08_HistogramRun.l1 kq l0 l1 t700 x7_2 x8_2 x9_3 false x11_3 t696 t697 t698 t699 = some r) ∧ Aside0 (kq ≤ k2) ∧ Aside0 (w'.heap[gb701]? = some (.cells #[.int .i64 t696, .int .i64 t697, .int .i64 t698, .int .i64 t699] 27 (0, 0))) ∧ Aside0 (Below w.heap.size w w'))
          case atStart => exact ⟨(0), (0), (by first | rfl | (simp; done) | (simp [*]; done)), (by first | rfl | (simp; done) | (simp [*]; done)), H', ⟨Nat.le_refl _⟩, ⟨by (with_reducible repeat (first | refine blk_drewN ?_ _ | refine blk_drew ?_ | refine blk_alloc ?_ _)); exact BK701.out⟩, ⟨by repeat (first | (with_reducible first | exact HB.out | apply below_alloc | apply pw_below_drewN | apply below_drew1 | refine below_set ?_ GE701.out) | exact HB.out)⟩⟩
          case round =>
           as_aux_lemma =>
            clear H'
            try clear c1
            try clear p2
            try clear c3
            try clear c4
            try clear p6
            try clear c7
            try clear c7b0
            try clear c7b1
            try clear c8
            try clear c13
            try clear c13b0
            try clear hcz12_0
            try clear hcz12_1
            try clear hcz12_2
            try clear hcz12_3
            try clear hfz12_0
            try clear hfz12_1
            try clear hfz12_2
            try clear hfz12_3
            try clear p2
            try clear p6
            obtain ⟨x9_3, x11_3, rfl, rfl, HA, HK3, BK701, HB⟩ := hrel
            cases gk with
            | zero => exact absurd HA.out (by simp [redlinelaw08_HistogramRun.l1])
            | succ k3 =>
             have H := HA.out
             clear HA
             simp only [redlinelaw08_HistogramRun.l1] at H
             by_cases c15 : x11_3 < (l0.length : Int)
             ·rw [if_pos c15] at H
              have c15b0 : decide (x11_3 < (l0.length : Int)) = true := decide_eq_true c15
              clear c15
              (first | rw [c15b0] | rw [c15b1] | (simp only [i64_w, i32_w]; rw [c15b0]) | skip)
              have HC16 := Aside0.mk H
              clear H
              go_upto_block 3 with (fail)
              go_cut [9] (fun v9 wc => ∃ (kq : Nat) (x9_15 : Int), v9 = .int .i64 x9_15 ∧ Aside0 (redlinelaw08_HistogramRun.j3 kq l0 l1 t700 x7_2 x8_2 x9_15 false x11_3 t696 t697 t698 t699 = some r) ∧ Aside0 (kq ≤ k3) ∧ Aside0 (wc.heap[gb701]? = some (.cells #[.int .i64 t696, .int .i64 t697, .int .i64 t698, .int .i64 t699] 27 (0, 0))) ∧ Aside0 (Below w.heap.size w wc))
              case first =>
               have H := HC16.out
               clear HC16
               by_cases c17 : 0 ≤ x11_3
               ·rw [if_pos c17] at H
                have c17b0 : decide (0 ≤ x11_3) = true := decide_eq_true c17
                clear c17
                (first | rw [c17b0] | rw [c17b1] | (simp only [i64_w, i32_w]; rw [c17b0]) | skip)
                by_cases c18 : 0 ≤ x8_2
                ·rw [if_pos c18] at H
                 have c18b0 : decide (0 ≤ x8_2) = true := decide_eq_true c18
                 clear c18
                 by_cases c19 : x8_2 < (l0.length : Int)
                 ·rw [if_pos c19] at H
                  have c19b0 : decide (x8_2 < (l0.length : Int)) = true := decide_eq_true c19
                  clear c19
                  by_cases c20 : (rd l0 x11_3) = (rd l0 x8_2)
                  ·rw [if_pos c20] at H
                   have c20b0 : ((rd l0 x11_3) == (rd l0 x8_2)) = true := beq_iff_eq.mpr c20
                   have c20b1 : ((rd l0 x11_3) != (rd l0 x8_2)) = false := bne_eq_false_iff_eq.mpr c20
                   clear c20
                   have H' := Aside0.mk H
                   clear H
                   try go_wp2
                   have n0_ := Aside0.mk (blk_drew BK701.out)
                   have n1_ := Aside0.mk (below_drew1 HB.out)
                   clear BK701
                   clear HB
                   have BK701 := n0_
                   have HB := n1_
                   clear n0_ n1_
                   have p702 : 0 ≤ (x11_3 : Int) := of_decide_eq_true (by first | (with_reducible assumption) | assumption)
                   have q702 : x11_3 < (l0.length : Int) := of_decide_eq_true (by first | (with_reducible assumption) | assumption)
                   obtain ⟨ad702, e702, hx702_0⟩ := Kd.at_int HR0.out x11_3 p702 q702
                   have hw702_0 := hx702_0
                   cases e702
                   replace hx702_0 := (HB.out.cell (World.block_lt_of_cell? w _ hx702_0)).trans hx702_0
                   replace p702 := eq_true p702
                   replace q702 := eq_true q702
                   have p703 : 0 ≤ (x8_2 : Int) := of_decide_eq_true (by first | (with_reducible assumption) | assumption)
                   have q703 : x8_2 < (l0.length : Int) := of_decide_eq_true (by first | (with_reducible assumption) | assumption)
                   obtain ⟨ad703, e703, hx703_0⟩ := Kd.at_int HR0.out x8_2 p703 q703
                   have hw703_0 := hx703_0
                   obtain rfl : ad702 = ad703 := (by injection e703)
                   replace hx703_0 := (HB.out.cell (World.block_lt_of_cell? w _ hx703_0)).trans hx703_0
                   replace p703 := eq_true p703
                   replace q703 := eq_true q703
                   refine start_ (n := 9) (S := fun w' => w'.cell? (ad702.add (x11_3).toNat) = some (.int .i64 (rd l0 x11_3)) ∧ w'.cell? (ad702.add (x8_2).toNat) = some (.int .i64 (rd l0 x8_2))) (ds := []) #[false, false, false, false, false, false, false, false, false] (by kernel_rfl) rfl rfl ⟨((HB.out.cell (World.block_lt_of_cell? w _ hw702_0)).trans hw702_0), ((HB.out.cell (World.block_lt_of_cell? w _ hw703_0)).trans hw703_0)⟩ (fun hHeld => ?_); refine with_tabW redlinelaw08_HistogramRun.tab14 redlinelaw08_HistogramRun.bits14 (fun HT_ HW_ => ?_)
                   generalize wr.drew = w21 at BK701 HB hx702_0 hx703_0 hHeld ⊢
                   refine pw_ 0 46 (ar 9 1) HT_.out ?_ (hc := redlinelaw08_HistogramRun.ck_0)
                   refine pw_ 1 47 (ar 9 2) HT_.out ?_ (hc := redlinelaw08_HistogramRun.ck_1)
                   refine pw_ 2 48 (ar 9 3) HT_.out ?_ (hc := redlinelaw08_HistogramRun.ck_2)
                   refine pw_ 4 50 #[true, true, true, false, true, false, false, false, false] HT_.out ?_ (hc := redlinelaw08_HistogramRun.ck_3)
                   refine pw_ 5 51 #[true, true, true, false, true, true, false, false, false] HT_.out ?_ (hc := redlinelaw08_HistogramRun.ck_4)
                   refine pw_ 6 52 #[true, true, true, false, true, true, true, false, false] HT_.out ?_ (hc := redlinelaw08_HistogramRun.ck_5)
                   refine take_ (i := 3) (N := some 49) (v := ?_) (a' := ?_) (ar 9 7) rfl rfl (take_ofW HT_.out HW_.out (by kernel_rfl)) (fun _ _ _ h => h) (Or.inl ⟨by rfl, ?_⟩) hHeld ?_ ?_
                   rotate_left
                   ·rintro w' ⟨s0, s1⟩
                    go_simp
                    with_reducible rfl
                   rotate_left
                   ·simp only [Act.put, List.setIfInBounds_toArray, List.set_cons_zero, List.set_cons_succ, i64_w, i32_w]
                    rfl
                   refine take_ (i := 7) (N := some 53) (v := ?_) (a' := ?_) (ar 9 8) rfl rfl (take_ofW HT_.out HW_.out (by kernel_rfl)) (fun _ _ _ h => h) (Or.inl ⟨by rfl, ?_⟩) hHeld ?_ ?_
                   rotate_left
                   ·rintro w' ⟨s0, s1⟩
                    go_simp
                    with_reducible rfl
                   rotate_left
                   ·simp only [Act.put, List.setIfInBounds_toArray, List.set_cons_zero, List.set_cons_succ, i64_w, i32_w]
                    rfl
                   refine pw_ 8 54 (ar 9 9) HT_.out ?_ (hc := redlinelaw08_HistogramRun.ck_6)
                   refine done_ (done_of HT_.out (by kernel_rfl)) ?_
                   try go_wp2
                   go_meet
                   case rel => exact ⟨_, (wrap64 (x9_3 + 1)), (by first | rfl | (simp; done) | (simp [*]; done)), H', ⟨by have := HJ4.out; have := HK2.out; have := HK3.out; first | omega | exact Nat.le_refl _⟩, ⟨by (with_reducible repeat (first | refine blk_drewN ?_ _ | refine blk_drew ?_ | refine blk_alloc ?_ _)); exact BK701.out⟩, ⟨by repeat (first | (with_reducible first | exact HB.out | apply below_alloc | apply pw_below_drewN | apply below_drew1 | refine below_set ?_ GE701.out) | exact HB.out)⟩⟩
                  ·rw [if_neg c20] at H
                   have c20b0 : ((rd l0 x11_3) == (rd l0 x8_2)) = false := beq_eq_false_iff_ne.mpr c20
                   have c20b1 : ((rd l0 x11_3) != (rd l0 x8_2)) = true := bne_iff_ne.mpr c20
                   have H' := Aside0.mk H
                   clear H
                   try go_wp2
                   have n0_ := Aside0.mk (blk_drew BK701.out)
                   have n1_ := Aside0.mk (below_drew1 HB.out)
                   clear BK701
                   clear HB
                   have BK701 := n0_
                   have HB := n1_
                   clear n0_ n1_
                   have p702 : 0 ≤ (x11_3 : Int) := of_decide_eq_true (by first | (with_reducible assumption) | assumption)
                   have q702 : x11_3 < (l0.length : Int) := of_decide_eq_true (by first | (with_reducible assumption) | assumption)
                   obtain ⟨ad702, e702, hx702_0⟩ := Kd.at_int HR0.out x11_3 p702 q702
                   have hw702_0 := hx702_0
                   cases e702
                   replace hx702_0 := (HB.out.cell (World.block_lt_of_cell? w _ hx702_0)).trans hx702_0
                   replace p702 := eq_true p702
                   replace q702 := eq_true q702
                   have p703 : 0 ≤ (x8_2 : Int) := of_decide_eq_true (by first | (with_reducible assumption) | assumption)
                   have q703 : x8_2 < (l0.length : Int) := of_decide_eq_true (by first | (with_reducible assumption) | assumption)
                   obtain ⟨ad703, e703, hx703_0⟩ := Kd.at_int HR0.out x8_2 p703 q703
                   have hw703_0 := hx703_0
                   obtain rfl : ad702 = ad703 := (by injection e703)
                   replace hx703_0 := (HB.out.cell (World.block_lt_of_cell? w _ hx703_0)).trans hx703_0
                   replace p703 := eq_true p703
                   replace q703 := eq_true q703
                   refine start_ (n := 9) (S := fun w' => w'.cell? (ad702.add (x11_3).toNat) = some (.int .i64 (rd l0 x11_3)) ∧ w'.cell? (ad702.add (x8_2).toNat) = some (.int .i64 (rd l0 x8_2))) (ds := []) #[false, false, false, false, false, false, false, false, false] (by kernel_rfl) rfl rfl ⟨((HB.out.cell (World.block_lt_of_cell? w _ hw702_0)).trans hw702_0), ((HB.out.cell (World.block_lt_of_cell? w _ hw703_0)).trans hw703_0)⟩ (fun hHeld => ?_); refine with_tabW redlinelaw08_HistogramRun.tab14 redlinelaw08_HistogramRun.bits14 (fun HT_ HW_ => ?_)
                   generalize wr.drew = w22 at BK701 HB hx702_0 hx703_0 hHeld ⊢
                   refine pw_ 0 46 (ar 9 1) HT_.out ?_ (hc := redlinelaw08_HistogramRun.ck_0)
                   refine pw_ 1 47 (ar 9 2) HT_.out ?_ (hc := redlinelaw08_HistogramRun.ck_1)
                   refine pw_ 2 48 (ar 9 3) HT_.out ?_ (hc := redlinelaw08_HistogramRun.ck_2)
                   refine pw_ 4 50 #[true, true, true, false, true, false, false, false, false] HT_.out ?_ (hc := redlinelaw08_HistogramRun.ck_3)
                   refine pw_ 5 51 #[true, true, true, false, true, true, false, false, false] HT_.out ?_ (hc := redlinelaw08_HistogramRun.ck_4)
                   refine pw_ 6 52 #[true, true, true, false, true, true, true, false, false] HT_.out ?_ (hc := redlinelaw08_HistogramRun.ck_5)
                   refine take_ (i := 3) (N := some 49) (v := ?_) (a' := ?_) (ar 9 7) rfl rfl (take_ofW HT_.out HW_.out (by kernel_rfl)) (fun _ _ _ h => h) (Or.inl ⟨by rfl, ?_⟩) hHeld ?_ ?_
                   rotate_left
                   ·rintro w' ⟨s0, s1⟩
                    go_simp
                    with_reducible rfl
                   rotate_left
                   ·simp only [Act.put, List.setIfInBounds_toArray, List.set_cons_zero, List.set_cons_succ, i64_w, i32_w]
                    rfl
                   refine take_ (i := 7) (N := some 53) (v := ?_) (a' := ?_) (ar 9 8) rfl rfl (take_ofW HT_.out HW_.out (by kernel_rfl)) (fun _ _ _ h => h) (Or.inl ⟨by rfl, ?_⟩) hHeld ?_ ?_
                   rotate_left
                   ·rintro w' ⟨s0, s1⟩
                    go_simp
                    with_reducible rfl
                   rotate_left
                   ·simp only [Act.put, List.setIfInBounds_toArray, List.set_cons_zero, List.set_cons_succ, i64_w, i32_w]
                    rfl
                   refine pw_ 8 54 (ar 9 9) HT_.out ?_ (hc := redlinelaw08_HistogramRun.ck_6)
                   refine done_ (done_of HT_.out (by kernel_rfl)) ?_
                   try go_wp2
                   go_meet
                   case rel => exact ⟨_, (x9_3), (by first | rfl | (simp; done) | (simp [*]; done)), H', ⟨by have := HJ4.out; have := HK2.out; have := HK3.out; first | omega | exact Nat.le_refl _⟩, ⟨by (with_reducible repeat (first | refine blk_drewN ?_ _ | refine blk_drew ?_ | refine blk_alloc ?_ _)); exact BK701.out⟩, ⟨by repeat (first | (with_reducible first | exact HB.out | apply below_alloc | apply pw_below_drewN | apply below_drew1 | refine below_set ?_ GE701.out) | exact HB.out)⟩⟩
                 ·rw [if_neg c19] at H
                  exact absurd H (by simp)
                ·rw [if_neg c18] at H
                 exact absurd H (by simp)
               ·rw [if_neg c17] at H
                exact absurd H (by simp)
              case rest =>
               clear HC16
               try clear c1
               try clear c2
               try clear p2
               try clear c3
               try clear c4
               try clear p6
               try clear c7
               try clear c7b0
               try clear c7b1
               try clear p7
               try clear q7
               try clear hx7
               try clear c8
               try clear c13
               try clear c13b0
               try clear c15
               try clear c15b0
               try clear c15b1
               try clear c17
               try clear c17b0
               try clear c17b1
               try clear c18
               try clear c18b0
               try clear c19
               try clear c19b0
               try clear c20
               try clear c20b0
               try clear c20b1
               try clear hcz12_0
               try clear hcz12_1
               try clear hcz12_2
               try clear hcz12_3
               try clear hfz12_0
               try clear hfz12_1
               try clear hfz12_2
               try clear hfz12_3
               try clear hx702_0
               try clear hx703_0
               try clear p2
               try clear p6
               try clear p702
               try clear p703
               try clear q702
               try clear q703
               obtain ⟨kq, x9_15, rfl, HA, HJ15, BK701, HB⟩ := hcut
               cases kq with
               | zero => exact absurd HA.out (by simp [redlinelaw08_HistogramRun.j3])
               | succ kj15 =>
                have H := HA.out
                clear HA
                simp only [redlinelaw08_HistogramRun.j3] at H
                have H' := Aside0.mk H
                clear H
                go_wp2
                go_roundg kj15
                case measure => have := HJ4.out; have := HK2.out; have := HK3.out; have := HJ15.out; omega
                case rel => exact ⟨(x9_15), (wrap64 (x11_3 + 1)), (by first | rfl | (simp; done) | (simp [*]; done)), (by first | rfl | (simp; done) | (simp [*]; done)), H', ⟨by have := HJ4.out; have := HK2.out; have := HK3.out; have := HJ15.out; omega⟩, ⟨by (with_reducible repeat (first | refine blk_drewN ?_ _ | refine blk_drew ?_ | refine blk_alloc ?_ _)); exact BK701.out⟩, ⟨by repeat (first | (with_reducible first | exact HB.out | apply below_alloc | apply pw_below_drewN | apply below_drew1 | refine below_set ?_ GE701.out) | exact HB.out)⟩⟩
             ·rw [if_neg c15] at H
              have c15b0 : decide (x11_3 < (l0.length : Int)) = false := decide_eq_false c15
              clear c15
              (first | rw [c15b0] | rw [c15b1] | (simp only [i64_w, i32_w]; rw [c15b0]) | skip)
              have H' := Aside0.mk H
              clear H
              go_wp2
              go_loopg [10, 12] k3 (fun kq v10 v12 w' => ∃ (x10_4 : Bool) (x12_4 : Int), v10 = .bool x10_4 ∧ v12 = .int .i64 x12_4 ∧ Aside0 (redlinelaw08_HistogramRun.l2 kq l0 l1 t700 x7_2 x8_2 x9_3 x10_4 x12_4 t696 t697 t698 t699 = some r) ∧ Aside0 (kq ≤ k3) ∧ Aside0 (w'.heap[gb701]? = some (.cells #[.int .i64 t696, .int .i64 t697, .int .i64 t698, .int .i64 t699] 27 (0, 0))) ∧ Aside0 (Below w.heap.size w w'))
              case atStart => exact ⟨(false), (0), (by first | rfl | (simp; done) | (simp [*]; done)), (by first | rfl | (simp; done) | (simp [*]; done)), H', ⟨Nat.le_refl _⟩, ⟨by (with_reducible repeat (first | refine blk_drewN ?_ _ | refine blk_drew ?_ | refine blk_alloc ?_ _)); exact BK701.out⟩, ⟨by repeat (first | (with_reducible first | exact HB.out | apply below_alloc | apply pw_below_drewN | apply below_drew1 | refine below_set ?_ GE701.out) | exact HB.out)⟩⟩
              case round =>
               clear H'
               try clear c1
               try clear c2
               try clear p2
               try clear c3
               try clear c4
               try clear p6
               try clear c7
               try clear c7b0
               try clear c7b1
               try clear p7
               try clear q7
               try clear hx7
               try clear c8
               try clear c13
               try clear c13b0
               try clear c15
               try clear c15b0
               try clear c15b1
               try clear c17
               try clear c17b0
               try clear c17b1
               try clear c18
               try clear c18b0
               try clear c19
               try clear c19b0
               try clear c20
               try clear c20b0
               try clear c20b1
               try clear hcz12_0
               try clear hcz12_1
               try clear hcz12_2
               try clear hcz12_3
               try clear hfz12_0
               try clear hfz12_1
               try clear hfz12_2
               try clear hfz12_3
               try clear hx702_0
               try clear hx703_0
               try clear p2
               try clear p6
               try clear p7
               try clear p702
               try clear p703
               try clear q7
               try clear q702
               try clear q703
               obtain ⟨x10_4, x12_4, rfl, rfl, HA, HK4, BK701, HB⟩ := hrel
               cases gk with
               | zero => exact absurd HA.out (by simp [redlinelaw08_HistogramRun.l2])
               | succ k4 =>
                have H := HA.out
                clear HA
                simp only [redlinelaw08_HistogramRun.l2] at H
                by_cases c23 : x12_4 < (l1.length : Int)
                ·rw [if_pos c23] at H
                 have c23b0 : decide (x12_4 < (l1.length : Int)) = true := decide_eq_true c23
                 clear c23
                 have HC24 := Aside0.mk H
                 clear H
                 go_upto_block 5 with (fail)
                 go_cut [10] (fun v10 wc => ∃ (kq : Nat) (x10_23 : Bool), v10 = .bool x10_23 ∧ Aside0 (redlinelaw08_HistogramRun.j5 kq l0 l1 t700 x7_2 x8_2 x9_3 x10_23 x12_4 t696 t697 t698 t699 = some r) ∧ Aside0 (kq ≤ k4) ∧ Aside0 (wc.heap[gb701]? = some (.cells #[.int .i64 t696, .int .i64 t697, .int .i64 t698, .int .i64 t699] 27 (0, 0))) ∧ Aside0 (Below w.heap.size w wc))
                 case first =>
                  have H := HC24.out
                  clear HC24
                  by_cases c25 : x10_4 = true
                  ·subst c25
                   have H1 : (redlinelaw08_HistogramRun.j5 k4 l0 l1 t700 x7_2 x8_2 x9_3 true x12_4 t696 t697 t698 t699) = some r := by rw [if_pos rfl] at H; exact H
                   clear H
                   have H := H1
                   clear H1
                   have H' := Aside0.mk H
                   clear H
                   try go_wp2
                   have n0_ := Aside0.mk (blk_drew BK701.out)
                   have n1_ := Aside0.mk (below_drew1 HB.out)
                   clear BK701
                   clear HB
                   have BK701 := n0_
                   have HB := n1_
                   clear n0_ n1_
                   refine start_ (n := 13) (S := fun w' => True) (ds := []) #[false, false, false, false, false, false, false, false, false, false, false, false, false] (by kernel_rfl) rfl rfl trivial (fun hHeld => ?_); refine with_tabW redlinelaw08_HistogramRun.tab19 redlinelaw08_HistogramRun.bits19 (fun HT_ HW_ => ?_)
                   generalize wr.drew = w26 at BK701 HB hHeld ⊢
                   refine pw_ 0 63 (ar 13 1) HT_.out ?_ (hc := redlinelaw08_HistogramRun.ck_7)
                   refine pw_ 1 64 (ar 13 2) HT_.out ?_ (hc := redlinelaw08_HistogramRun.ck_8)
                   refine pu_ 2 65 (ar 13 3) HT_.out ?_ (hc := redlinelaw08_HistogramRun.ck_9)
                   refine pu_ 3 66 (ar 13 4) HT_.out ?_ (hc := redlinelaw08_HistogramRun.ck_10)
                   refine pu_ 4 67 (ar 13 5) HT_.out ?_ (hc := redlinelaw08_HistogramRun.ck_11)
                   refine pu_ 5 68 (ar 13 6) HT_.out ?_ (hc := redlinelaw08_HistogramRun.ck_12)
                   refine pu_ 6 69 (ar 13 7) HT_.out ?_ (hc := redlinelaw08_HistogramRun.ck_13)
                   refine pu_ 7 70 (ar 13 8) HT_.out ?_ (hc := redlinelaw08_HistogramRun.ck_14)
                   refine pu_ 8 71 (ar 13 9) HT_.out ?_ (hc := redlinelaw08_HistogramRun.ck_15)
                   refine pu_ 9 72 (ar 13 10) HT_.out ?_ (hc := redlinelaw08_HistogramRun.ck_16)
                   refine pu_ 10 73 (ar 13 11) HT_.out ?_ (hc := redlinelaw08_HistogramRun.ck_17)
                   refine pw_ 11 74 (ar 13 12) HT_.out ?_ (hc := redlinelaw08_HistogramRun.ck_18)
                   refine pw_ 12 10 (ar 13 13) HT_.out ?_ (hc := redlinelaw08_HistogramRun.ck_19)
                   refine done_ (done_of HT_.out (by kernel_rfl)) ?_
                   try go_wp2
                   go_meet
                   case rel => exact ⟨_, (true), (by first | rfl | (simp; done) | (simp [*]; done)), H', ⟨by have := HJ4.out; have := HK2.out; have := HK3.out; have := HK4.out; first | omega | exact Nat.le_refl _⟩, ⟨by (with_reducible repeat (first | refine blk_drewN ?_ _ | refine blk_drew ?_ | refine blk_alloc ?_ _)); exact BK701.out⟩, ⟨by repeat (first | (with_reducible first | exact HB.out | apply below_alloc | apply pw_below_drewN | apply below_drew1 | refine below_set ?_ GE701.out) | exact HB.out)⟩⟩
                  ·replace c25 := Bool.eq_false_iff.mpr c25
                   subst c25
                   have H1 : (if 0 ≤ x12_4 then (if 0 ≤ x8_2 then (if x8_2 < (l0.length : Int) then (redlinelaw08_HistogramRun.j5 k4 l0 l1 t700 x7_2 x8_2 x9_3 ((rd l1 x12_4) == (rd l0 x8_2)) x12_4 t696 t697 t698 t699) else (none)) else (none)) else (none)) = some r := by rw [if_neg (show ¬ (false = true) by decide)] at H; exact H
                   clear H
                   have H := H1
                   clear H1
                   by_cases c27 : 0 ≤ x12_4
                   ·rw [if_pos c27] at H
                    have c27b0 : decide (0 ≤ x12_4) = true := decide_eq_true c27
                    clear c27
                    (first | rw [c27b0] | rw [c27b1] | (simp only [i64_w, i32_w]; rw [c27b0]) | skip)
                    by_cases c28 : 0 ≤ x8_2
                    ·rw [if_pos c28] at H
                     have c28b0 : decide (0 ≤ x8_2) = true := decide_eq_true c28
                     clear c28
                     by_cases c29 : x8_2 < (l0.length : Int)
                     ·rw [if_pos c29] at H
                      have c29b0 : decide (x8_2 < (l0.length : Int)) = true := decide_eq_true c29
                      clear c29
                      have H' := Aside0.mk H
                      clear H
                      try go_wp2
                      have n0_ := Aside0.mk (blk_drew BK701.out)
                      have n1_ := Aside0.mk (below_drew1 HB.out)
                      clear BK701
                      clear HB
                      have BK701 := n0_
                      have HB := n1_
                      clear n0_ n1_
                      have p704 : 0 ≤ (x12_4 : Int) := of_decide_eq_true (by first | (with_reducible assumption) | assumption)
                      have q704 : x12_4 < (l1.length : Int) := of_decide_eq_true (by first | (with_reducible assumption) | assumption)
                      obtain ⟨ad704, e704, hx704_0⟩ := Kd.at_int HR1.out x12_4 p704 q704
                      have hw704_0 := hx704_0
                      cases e704
                      replace hx704_0 := (HB.out.cell (World.block_lt_of_cell? w _ hx704_0)).trans hx704_0
                      replace p704 := eq_true p704
                      replace q704 := eq_true q704
                      have p705 : 0 ≤ (x8_2 : Int) := of_decide_eq_true (by first | (with_reducible assumption) | assumption)
                      have q705 : x8_2 < (l0.length : Int) := of_decide_eq_true (by first | (with_reducible assumption) | assumption)
                      obtain ⟨ad705, e705, hx705_0⟩ := Kd.at_int HR0.out x8_2 p705 q705
                      have hw705_0 := hx705_0
                      cases e705
                      replace hx705_0 := (HB.out.cell (World.block_lt_of_cell? w _ hx705_0)).trans hx705_0
                      replace p705 := eq_true p705
                      replace q705 := eq_true q705
                      refine start_ (n := 13) (S := fun w' => w'.cell? (ad704.add (x12_4).toNat) = some (.int .i64 (rd l1 x12_4)) ∧ w'.cell? (ad705.add (x8_2).toNat) = some (.int .i64 (rd l0 x8_2))) (ds := []) #[false, false, false, false, false, false, false, false, false, false, false, false, false] (by kernel_rfl) rfl rfl ⟨((HB.out.cell (World.block_lt_of_cell? w _ hw704_0)).trans hw704_0), ((HB.out.cell (World.block_lt_of_cell? w _ hw705_0)).trans hw705_0)⟩ (fun hHeld => ?_); refine with_tabW redlinelaw08_HistogramRun.tab19 redlinelaw08_HistogramRun.bits19 (fun HT_ HW_ => ?_)
                      generalize wr.drew = w30 at BK701 HB hx704_0 hx705_0 hHeld ⊢
                      refine pw_ 0 63 (ar 13 1) HT_.out ?_ (hc := redlinelaw08_HistogramRun.ck_7)
                      refine pw_ 1 64 (ar 13 2) HT_.out ?_ (hc := redlinelaw08_HistogramRun.ck_8)
                      refine pw_ 2 65 (ar 13 3) HT_.out ?_ (hc := redlinelaw08_HistogramRun.ck_9)
                      refine pw_ 3 66 (ar 13 4) HT_.out ?_ (hc := redlinelaw08_HistogramRun.ck_10)
                      refine pw_ 4 67 (ar 13 5) HT_.out ?_ (hc := redlinelaw08_HistogramRun.ck_11)
                      refine pw_ 6 69 #[true, true, true, true, true, false, true, false, false, false, false, false, false] HT_.out ?_ (hc := redlinelaw08_HistogramRun.ck_20)
                      refine pw_ 7 70 #[true, true, true, true, true, false, true, true, false, false, false, false, false] HT_.out ?_ (hc := redlinelaw08_HistogramRun.ck_21)
                      refine pw_ 8 71 #[true, true, true, true, true, false, true, true, true, false, false, false, false] HT_.out ?_ (hc := redlinelaw08_HistogramRun.ck_22)
                      refine take_ (i := 5) (N := some 68) (v := ?_) (a' := ?_) (ar 13 9) rfl rfl (take_ofW HT_.out HW_.out (by kernel_rfl)) (fun _ _ _ h => h) (Or.inl ⟨by rfl, ?_⟩) hHeld ?_ ?_
                      rotate_left
                      ·rintro w' ⟨s0, s1⟩
                       go_simp
                       with_reducible rfl
                      rotate_left
                      ·simp only [Act.put, List.setIfInBounds_toArray, List.set_cons_zero, List.set_cons_succ, i64_w, i32_w]
                       rfl
                      refine take_ (i := 9) (N := some 72) (v := ?_) (a' := ?_) (ar 13 10) rfl rfl (take_ofW HT_.out HW_.out (by kernel_rfl)) (fun _ _ _ h => h) (Or.inl ⟨by rfl, ?_⟩) hHeld ?_ ?_
                      rotate_left
                      ·rintro w' ⟨s0, s1⟩
                       go_simp
                       with_reducible rfl
                      rotate_left
                      ·simp only [Act.put, List.setIfInBounds_toArray, List.set_cons_zero, List.set_cons_succ, i64_w, i32_w]
                       rfl
                      refine pw_ 10 73 (ar 13 11) HT_.out ?_ (hc := redlinelaw08_HistogramRun.ck_17)
                      refine pw_ 11 74 (ar 13 12) HT_.out ?_ (hc := redlinelaw08_HistogramRun.ck_18)
                      refine pw_ 12 10 (ar 13 13) HT_.out ?_ (hc := redlinelaw08_HistogramRun.ck_19)
                      refine done_ (done_of HT_.out (by kernel_rfl)) ?_
                      try go_wp2
                      go_meet
                      case rel => exact ⟨_, (((rd l1 x12_4) == (rd l0 x8_2))), (by first | rfl | (simp; done) | (simp [*]; done)), H', ⟨by have := HJ4.out; have := HK2.out; have := HK3.out; have := HK4.out; first | omega | exact Nat.le_refl _⟩, ⟨by (with_reducible repeat (first | refine blk_drewN ?_ _ | refine blk_drew ?_ | refine blk_alloc ?_ _)); exact BK701.out⟩, ⟨by repeat (first | (with_reducible first | exact HB.out | apply below_alloc | apply pw_below_drewN | apply below_drew1 | refine below_set ?_ GE701.out) | exact HB.out)⟩⟩
                     ·rw [if_neg c29] at H
                      exact absurd H (by simp)
                    ·rw [if_neg c28] at H
                     exact absurd H (by simp)
                   ·rw [if_neg c27] at H
                    exact absurd H (by simp)
                 case rest =>
                  clear HC24
                  try clear c1
                  try clear c2
                  try clear p2
                  try clear c3
                  try clear c4
                  try clear p6
                  try clear c7
                  try clear c7b0
                  try clear c7b1
                  try clear p7
                  try clear q7
                  try clear hx7
                  try clear c8
                  try clear c13
                  try clear c13b0
                  try clear c15
                  try clear c15b0
                  try clear c15b1
                  try clear c17
                  try clear c17b0
                  try clear c17b1
                  try clear c18
                  try clear c18b0
                  try clear c19
                  try clear c19b0
                  try clear c20
                  try clear c20b0
                  try clear c20b1
                  try clear c23
                  try clear c23b0
                  try clear c25
                  try clear c27
                  try clear c27b0
                  try clear c27b1
                  try clear c28
                  try clear c28b0
                  try clear c29
                  try clear c29b0
                  try clear hcz12_0
                  try clear hcz12_1
                  try clear hcz12_2
                  try clear hcz12_3
                  try clear hfz12_0
                  try clear hfz12_1
                  try clear hfz12_2
                  try clear hfz12_3
                  try clear hx702_0
                  try clear hx703_0
                  try clear hx704_0
                  try clear hx705_0
                  try clear p2
                  try clear p6
                  try clear p7
                  try clear p702
                  try clear p703
                  try clear p704
                  try clear p705
                  try clear q7
                  try clear q702
                  try clear q703
                  try clear q704
                  try clear q705
                  obtain ⟨kq, x10_23, rfl, HA, HJ23, BK701, HB⟩ := hcut
                  cases kq with
                  | zero => exact absurd HA.out (by simp [redlinelaw08_HistogramRun.j5])
                  | succ kj23 =>
                   have H := HA.out
                   clear HA
                   simp only [redlinelaw08_HistogramRun.j5] at H
                   have H' := Aside0.mk H
                   clear H
                   go_wp2
                   go_roundg kj23
                   case measure => have := HJ4.out; have := HK2.out; have := HK3.out; have := HK4.out; have := HJ23.out; omega
                   case rel => exact ⟨(x10_23), (wrap64 (x12_4 + 1)), (by first | rfl | (simp; done) | (simp [*]; done)), (by first | rfl | (simp; done) | (simp [*]; done)), H', ⟨by have := HJ4.out; have := HK2.out; have := HK3.out; have := HK4.out; have := HJ23.out; omega⟩, ⟨by (with_reducible repeat (first | refine blk_drewN ?_ _ | refine blk_drew ?_ | refine blk_alloc ?_ _)); exact BK701.out⟩, ⟨by repeat (first | (with_reducible first | exact HB.out | apply below_alloc | apply pw_below_drewN | apply below_drew1 | refine below_set ?_ GE701.out) | exact HB.out)⟩⟩
                ·rw [if_neg c23] at H
                 have c23b0 : decide (x12_4 < (l1.length : Int)) = false := decide_eq_false c23
                 clear c23
                 by_cases c31 : x10_4 = true
                 ·subst c31
                  have H1 : (redlinelaw08_HistogramRun.j6 k4 l0 l1 t700 (mn x7_2 x9_3) x8_2 t696 t697 t698 t699) = some r := by rw [if_pos rfl] at H; exact H
                  clear H
                  have H := H1
                  clear H1
                  obtain ⟨ji32, hji32⟩ : ∃ j_ : Int, (mn x7_2 x9_3) = j_ := ⟨_, rfl⟩
                  replace H : (redlinelaw08_HistogramRun.j6 k4 l0 l1 t700 ji32 x8_2 t696 t697 t698 t699) = some r := by first | (rw [hji32] at H; exact H) | (simp only [hji32] at H ⊢; exact H)
                  have hji32_ : (if x9_3 < x7_2 then x9_3 else x7_2) = ji32 := hji32
                  have H' := Aside0.mk H
                  clear H
                  go_wp2
                  go_meet
                  case rel => exact ⟨_, (ji32), (by first | rfl | (simp; done) | (simp only [← hji32] <;> (first | rfl | simp)) | (simp [*]; done)), H', ⟨by have := HJ4.out; have := HK2.out; have := HK3.out; have := HK4.out; first | omega | exact Nat.le_refl _⟩, ⟨by (with_reducible repeat (first | refine blk_drewN ?_ _ | refine blk_drew ?_ | refine blk_alloc ?_ _)); exact BK701.out⟩, ⟨by repeat (first | (with_reducible first | exact HB.out | apply below_alloc | apply pw_below_drewN | apply below_drew1 | refine below_set ?_ GE701.out) | exact HB.out)⟩⟩
                 ·replace c31 := Bool.eq_false_iff.mpr c31
                  subst c31
                  have H1 : (redlinelaw08_HistogramRun.j6 k4 l0 l1 t700 x7_2 x8_2 t696 t697 t698 t699) = some r := by rw [if_neg (show ¬ (false = true) by decide)] at H; exact H
                  clear H
                  have H := H1
                  clear H1
                  have H' := Aside0.mk H
                  clear H
                  go_wp2
                  go_meet
                  case rel => exact ⟨_, (x7_2), (by first | rfl | (simp; done) | (simp [*]; done)), H', ⟨by have := HJ4.out; have := HK2.out; have := HK3.out; have := HK4.out; first | omega | exact Nat.le_refl _⟩, ⟨by (with_reducible repeat (first | refine blk_drewN ?_ _ | refine blk_drew ?_ | refine blk_alloc ?_ _)); exact BK701.out⟩, ⟨by repeat (first | (with_reducible first | exact HB.out | apply below_alloc | apply pw_below_drewN | apply below_drew1 | refine below_set ?_ GE701.out) | exact HB.out)⟩⟩
         case rest =>
          clear HC14
          try clear c1
          try clear c2
          try clear p2
          try clear c3
          try clear c4
          try clear p6
          try clear c7
          try clear c7b0
          try clear c7b1
          try clear p7
          try clear q7
          try clear hx7
          try clear c8
          try clear c13
          try clear c13b0
          try clear c15
          try clear c15b0
          try clear c15b1
          try clear c17
          try clear c17b0
          try clear c17b1
          try clear c18
          try clear c18b0
          try clear c19
          try clear c19b0
          try clear c20
          try clear c20b0
          try clear c20b1
          try clear c23
          try clear c23b0
          try clear c25
          try clear c27
          try clear c27b0
          try clear c27b1
          try clear c28
          try clear c28b0
          try clear c29
          try clear c29b0
          try clear c31
          try clear hcz12_0
          try clear hcz12_1
          try clear hcz12_2
          try clear hcz12_3
          try clear hfz12_0
          try clear hfz12_1
          try clear hfz12_2
          try clear hfz12_3
          try clear hx702_0
          try clear hx703_0
          try clear hx704_0
          try clear hx705_0
          try clear p2
          try clear p6
          try clear p7
          try clear p702
          try clear p703
          try clear p704
          try clear p705
          try clear q7
          try clear q702
          try clear q703
          try clear q704
          try clear q705
          obtain ⟨kq, x7_13, rfl, HA, HJ13, BK701, HB⟩ := hcut
          cases kq with
          | zero => exact absurd HA.out (by simp [redlinelaw08_HistogramRun.j6])
          | succ kj13 =>
           have H := HA.out
           clear HA
           simp only [redlinelaw08_HistogramRun.j6] at H
           have H' := Aside0.mk H
           clear H
           go_wp2
           go_roundg kj13
           case measure => have := HJ4.out; have := HK2.out; have := HJ13.out; omega
           case rel => exact ⟨(x7_13), (wrap64 (x8_2 + 1)), (by first | rfl | (simp; done) | (simp [*]; done)), (by first | rfl | (simp; done) | (simp [*]; done)), H', ⟨by have := HJ4.out; have := HK2.out; have := HJ13.out; omega⟩, ⟨by (with_reducible repeat (first | refine blk_drewN ?_ _ | refine blk_drew ?_ | refine blk_alloc ?_ _)); exact BK701.out⟩, ⟨by repeat (first | (with_reducible first | exact HB.out | apply below_alloc | apply pw_below_drewN | apply below_drew1 | refine below_set ?_ GE701.out) | exact HB.out)⟩⟩
        ·rw [if_neg c13] at H
         have c13b0 : decide (x8_2 < (l0.length : Int)) = false := decide_eq_false c13
         clear c13
         by_cases c33 : t700 = true
         ·subst c33
          have H1 : (if t696 < 0 then (redlinelaw08_HistogramRun.j7 k2 l0 l1 true t696 t697 t698 t699) else (if t697 < 0 then (redlinelaw08_HistogramRun.j7 k2 l0 l1 true t696 t697 t698 t699) else (if t698 < 1 then (redlinelaw08_HistogramRun.j7 k2 l0 l1 true t696 t697 t698 t699) else (if t696 > (wrap64 ((l0.length : Int) - t698)) then (redlinelaw08_HistogramRun.j7 k2 l0 l1 true t696 t697 t698 t699) else (if t697 > (wrap64 ((l1.length : Int) - t698)) then (redlinelaw08_HistogramRun.j7 k2 l0 l1 true t696 t697 t698 t699) else (if t699 = x7_2 then (if 0 ≤ t696 then (if t696 ≤ (wrap64 (t696 + t698)) then (if (wrap64 (t696 + t698)) ≤ (l0.length : Int) then (if 0 ≤ t697 then (if t697 ≤ (wrap64 (t697 + t698)) then (if (wrap64 (t697 + t698)) ≤ (l1.length : Int) then ((redlineref04_SameInts.f k2 ((l0.take ((wrap64 (t696 + t698)) : Int).toNat).drop (t696 : Int).toNat) ((l1.take ((wrap64 (t697 + t698)) : Int).toNat).drop (t697 : Int).toNat)).bind fun t708 => (redlinelaw08_HistogramRun.j7 k2 l0 l1 (!t708) t696 t697 t698 t699)) else (none)) else (none)) else (none)) else (none)) else (none)) else (none)) else (redlinelaw08_HistogramRun.j7 k2 l0 l1 true t696 t697 t698 t699))))))) = some r := by rw [if_pos rfl] at H; exact H
          clear H
          have H := H1
          clear H1
          have HC34 := Aside0.mk H
          clear H
          go_upto_region 24 with (fail)
          go_cut [150] (fun v150 wc => ∃ (kq : Nat) (x150_33 : Bool), v150 = .bool x150_33 ∧ Aside0 (redlinelaw08_HistogramRun.j7 kq l0 l1 x150_33 t696 t697 t698 t699 = some r) ∧ Aside0 (kq ≤ k2) ∧ Aside0 (wc.heap[gb701]? = some (.cells #[.int .i64 t696, .int .i64 t697, .int .i64 t698, .int .i64 t699] 27 (0, 0))) ∧ Aside0 (Below w.heap.size w wc))
          case first =>
           have H := HC34.out
           clear HC34
           by_cases c35 : t696 < 0
           ·as_aux_lemma =>
             rw [if_pos c35] at H
             have c35b0 : decide (t696 < 0) = true := decide_eq_true c35
             clear c35
             (first | rw [c35b0] | rw [c35b1] | (simp only [i64_w, i32_w]; rw [c35b0]) | skip)
             have H' := Aside0.mk H
             clear H
             try go_wp2
             have n0_ := Aside0.mk (blk_drew BK701.out)
             have n1_ := Aside0.mk (below_drew1 HB.out)
             clear BK701
             clear HB
             have BK701 := n0_
             have HB := n1_
             clear n0_ n1_
             refine start_ (n := 61) (S := fun w' => w'.cell? ⟨gb701, 0, none⟩ = some (.int .i64 t696) ∧ w'.cell? ⟨gb701, 1, none⟩ = some (.int .i64 t697) ∧ w'.cell? ⟨gb701, 2, none⟩ = some (.int .i64 t698) ∧ w'.cell? ⟨gb701, 3, none⟩ = some (.int .i64 t699)) (ds := []) #[false, false, false, false, false, false, false, false, false, false, false, false, false, false, false, false, false, false, false, false, false, false, false, false, false, false, false, false, false, false, false, false, false, false, false, false, false, false, false, false, false, false, false, false, false, false, false, false, false, false, false, false, false, false, false, false, false, false, false, false, false] (by kernel_rfl) rfl rfl ⟨(blk_cell BK701.out 0).trans rfl, (blk_cell BK701.out 1).trans rfl, (blk_cell BK701.out 2).trans rfl, (blk_cell BK701.out 3).trans rfl⟩ (fun hHeld => ?_); refine with_tabW redlinelaw08_HistogramRun.tab24 redlinelaw08_HistogramRun.bits24 (fun HT_ HW_ => ?_)
             generalize wr.drew = w36 at BK701 HB hHeld ⊢
             refine pw_ 0 90 redlinelaw08_HistogramRun.aa_0 HT_.out ?_ (hc := redlinelaw08_HistogramRun.ck_23)
             refine take_ (i := 1) (N := some 91) (v := ?_) (a' := ?_) redlinelaw08_HistogramRun.aa_2 rfl rfl (take_ofW HT_.out HW_.out (by kernel_rfl)) (fun _ _ _ h => h) (Or.inl ⟨by rfl, ?_⟩) hHeld ?_ ?_
             rotate_left
             ·rintro w' ⟨s0, s1, s2, s3⟩
              go_simp
              with_reducible rfl
             rotate_left
             ·simp only [Act.put, List.setIfInBounds_toArray, List.set_cons_zero, List.set_cons_succ, i64_w, i32_w]
              rfl
             refine pw_ 2 92 redlinelaw08_HistogramRun.aa_3 HT_.out ?_ (hc := redlinelaw08_HistogramRun.ck_24)
             refine pw_ 3 93 redlinelaw08_HistogramRun.aa_4 HT_.out ?_ (hc := redlinelaw08_HistogramRun.ck_25)
             refine pu_ 4 94 redlinelaw08_HistogramRun.aa_5 HT_.out ?_ (hc := redlinelaw08_HistogramRun.ck_26)
             refine pu_ 5 95 redlinelaw08_HistogramRun.aa_6 HT_.out ?_ (hc := redlinelaw08_HistogramRun.ck_27)
             refine pu_ 6 96 redlinelaw08_HistogramRun.aa_7 HT_.out ?_ (hc := redlinelaw08_HistogramRun.ck_28)
             refine pw_ 7 97 redlinelaw08_HistogramRun.aa_8 HT_.out ?_ (hc := redlinelaw08_HistogramRun.ck_29)
             refine pw_ 8 98 redlinelaw08_HistogramRun.aa_9 HT_.out ?_ (hc := redlinelaw08_HistogramRun.ck_30)
             refine pu_ 9 99 redlinelaw08_HistogramRun.aa_10 HT_.out ?_ (hc := redlinelaw08_HistogramRun.ck_31)
             refine pu_ 10 100 redlinelaw08_HistogramRun.aa_11 HT_.out ?_ (hc := redlinelaw08_HistogramRun.ck_32)
             refine pu_ 11 101 redlinelaw08_HistogramRun.aa_12 HT_.out ?_ (hc := redlinelaw08_HistogramRun.ck_33)
             refine pw_ 12 102 redlinelaw08_HistogramRun.aa_13 HT_.out ?_ (hc := redlinelaw08_HistogramRun.ck_34)
             refine pw_ 13 103 redlinelaw08_HistogramRun.aa_14 HT_.out ?_ (hc := redlinelaw08_HistogramRun.ck_35)
             refine pu_ 14 104 redlinelaw08_HistogramRun.aa_15 HT_.out ?_ (hc := redlinelaw08_HistogramRun.ck_36)
             refine pu_ 15 105 redlinelaw08_HistogramRun.aa_16 HT_.out ?_ (hc := redlinelaw08_HistogramRun.ck_37)
             refine pu_ 16 106 redlinelaw08_HistogramRun.aa_17 HT_.out ?_ (hc := redlinelaw08_HistogramRun.ck_38)
             refine pu_ 17 107 redlinelaw08_HistogramRun.aa_18 HT_.out ?_ (hc := redlinelaw08_HistogramRun.ck_39)
             refine pu_ 18 108 redlinelaw08_HistogramRun.aa_19 HT_.out ?_ (hc := redlinelaw08_HistogramRun.ck_40)
             refine pu_ 19 109 redlinelaw08_HistogramRun.aa_20 HT_.out ?_ (hc := redlinelaw08_HistogramRun.ck_41)
             refine pu_ 20 110 redlinelaw08_HistogramRun.aa_21 HT_.out ?_ (hc := redlinelaw08_HistogramRun.ck_42)
             refine pu_ 21 111 redlinelaw08_HistogramRun.aa_22 HT_.out ?_ (hc := redlinelaw08_HistogramRun.ck_43)
             refine pw_ 22 112 redlinelaw08_HistogramRun.aa_23 HT_.out ?_ (hc := redlinelaw08_HistogramRun.ck_44)
             refine pw_ 23 113 redlinelaw08_HistogramRun.aa_24 HT_.out ?_ (hc := redlinelaw08_HistogramRun.ck_45)
             refine pu_ 24 114 redlinelaw08_HistogramRun.aa_25 HT_.out ?_ (hc := redlinelaw08_HistogramRun.ck_46)
             refine pu_ 25 115 redlinelaw08_HistogramRun.aa_26 HT_.out ?_ (hc := redlinelaw08_HistogramRun.ck_47)
             refine pu_ 26 116 redlinelaw08_HistogramRun.aa_27 HT_.out ?_ (hc := redlinelaw08_HistogramRun.ck_48)
             refine pu_ 27 117 redlinelaw08_HistogramRun.aa_28 HT_.out ?_ (hc := redlinelaw08_HistogramRun.ck_49)
             refine pu_ 28 118 redlinelaw08_HistogramRun.aa_29 HT_.out ?_ (hc := redlinelaw08_HistogramRun.ck_50)
             refine pu_ 29 119 redlinelaw08_HistogramRun.aa_30 HT_.out ?_ (hc := redlinelaw08_HistogramRun.ck_51)
             refine pu_ 30 120 redlinelaw08_HistogramRun.aa_31 HT_.out ?_ (hc := redlinelaw08_HistogramRun.ck_52)
             refine pu_ 31 121 redlinelaw08_HistogramRun.aa_32 HT_.out ?_ (hc := redlinelaw08_HistogramRun.ck_53)
             refine pw_ 32 122 redlinelaw08_HistogramRun.aa_33 HT_.out ?_ (hc := redlinelaw08_HistogramRun.ck_54)
             refine pw_ 33 123 redlinelaw08_HistogramRun.aa_34 HT_.out ?_ (hc := redlinelaw08_HistogramRun.ck_55)
             refine pu_ 34 124 redlinelaw08_HistogramRun.aa_35 HT_.out ?_ (hc := redlinelaw08_HistogramRun.ck_56)
             refine pu_ 35 125 redlinelaw08_HistogramRun.aa_36 HT_.out ?_ (hc := redlinelaw08_HistogramRun.ck_57)
             refine pu_ 36 126 redlinelaw08_HistogramRun.aa_37 HT_.out ?_ (hc := redlinelaw08_HistogramRun.ck_58)
             refine pu_ 37 127 redlinelaw08_HistogramRun.aa_38 HT_.out ?_ (hc := redlinelaw08_HistogramRun.ck_59)
             refine pw_ 38 128 redlinelaw08_HistogramRun.aa_39 HT_.out ?_ (hc := redlinelaw08_HistogramRun.ck_60)
             refine pw_ 39 129 redlinelaw08_HistogramRun.aa_40 HT_.out ?_ (hc := redlinelaw08_HistogramRun.ck_61)
             refine pu_ 40 130 redlinelaw08_HistogramRun.aa_41 HT_.out ?_ (hc := redlinelaw08_HistogramRun.ck_62)
             refine pu_ 41 131 redlinelaw08_HistogramRun.aa_42 HT_.out ?_ (hc := redlinelaw08_HistogramRun.ck_63)
             refine pu_ 42 132 redlinelaw08_HistogramRun.aa_43 HT_.out ?_ (hc := redlinelaw08_HistogramRun.ck_64)
             refine pu_ 43 133 redlinelaw08_HistogramRun.aa_44 HT_.out ?_ (hc := redlinelaw08_HistogramRun.ck_65)
             refine pu_ 44 134 redlinelaw08_HistogramRun.aa_45 HT_.out ?_ (hc := redlinelaw08_HistogramRun.ck_66)
             refine pu_ 45 135 redlinelaw08_HistogramRun.aa_46 HT_.out ?_ (hc := redlinelaw08_HistogramRun.ck_67)
             refine pu_ 46 136 redlinelaw08_HistogramRun.aa_47 HT_.out ?_ (hc := redlinelaw08_HistogramRun.ck_68)
             refine pu_ 47 137 redlinelaw08_HistogramRun.aa_48 HT_.out ?_ (hc := redlinelaw08_HistogramRun.ck_69)
             refine pu_ 48 138 redlinelaw08_HistogramRun.aa_49 HT_.out ?_ (hc := redlinelaw08_HistogramRun.ck_70)
             refine pu_ 49 139 redlinelaw08_HistogramRun.aa_50 HT_.out ?_ (hc := redlinelaw08_HistogramRun.ck_71)
             refine pu_ 50 140 redlinelaw08_HistogramRun.aa_51 HT_.out ?_ (hc := redlinelaw08_HistogramRun.ck_72)
             refine pu_ 51 141 redlinelaw08_HistogramRun.aa_52 HT_.out ?_ (hc := redlinelaw08_HistogramRun.ck_73)
             refine pu_ 52 142 redlinelaw08_HistogramRun.aa_53 HT_.out ?_ (hc := redlinelaw08_HistogramRun.ck_74)
             refine pu_ 53 143 redlinelaw08_HistogramRun.aa_54 HT_.out ?_ (hc := redlinelaw08_HistogramRun.ck_75)
             refine pu_ 54 144 redlinelaw08_HistogramRun.aa_55 HT_.out ?_ (hc := redlinelaw08_HistogramRun.ck_76)
             refine pu_ 55 145 redlinelaw08_HistogramRun.aa_56 HT_.out ?_ (hc := redlinelaw08_HistogramRun.ck_77)
             refine pu_ 56 146 redlinelaw08_HistogramRun.aa_57 HT_.out ?_ (hc := redlinelaw08_HistogramRun.ck_78)
             refine pu_ 57 147 redlinelaw08_HistogramRun.aa_58 HT_.out ?_ (hc := redlinelaw08_HistogramRun.ck_79)
             refine pu_ 58 148 redlinelaw08_HistogramRun.aa_59 HT_.out ?_ (hc := redlinelaw08_HistogramRun.ck_80)
             refine pu_ 59 149 redlinelaw08_HistogramRun.aa_60 HT_.out ?_ (hc := redlinelaw08_HistogramRun.ck_81)
             refine pw_ 60 150 redlinelaw08_HistogramRun.aa_61 HT_.out ?_ (hc := redlinelaw08_HistogramRun.ck_82)
             refine done_ (done_of HT_.out (by kernel_rfl)) ?_
             try go_wp2
             go_meet
             case rel => exact ⟨_, (true), (by first | rfl | (simp; done) | (simp [*]; done)), H', ⟨by have := HJ4.out; have := HK2.out; first | omega | exact Nat.le_refl _⟩, ⟨by (with_reducible repeat (first | refine blk_drewN ?_ _ | refine blk_drew ?_ | refine blk_alloc ?_ _)); exact BK701.out⟩, ⟨by repeat (first | (with_reducible first | exact HB.out | apply below_alloc | apply pw_below_drewN | apply below_drew1 | refine below_set ?_ GE701.out) | exact HB.out)⟩⟩
           ·rw [if_neg c35] at H
            have c35b0 : decide (t696 < 0) = false := decide_eq_false c35
            clear c35
            (first | rw [c35b0] | rw [c35b1] | (simp only [i64_w, i32_w]; rw [c35b0]) | skip)
            by_cases c37 : t697 < 0
            ·as_aux_lemma =>
              rw [if_pos c37] at H
              have c37b0 : decide (t697 < 0) = true := decide_eq_true c37
              clear c37
              have H' := Aside0.mk H
              clear H
              try go_wp2
              have n0_ := Aside0.mk (blk_drew BK701.out)
              have n1_ := Aside0.mk (below_drew1 HB.out)
              clear BK701
              clear HB
              have BK701 := n0_
              have HB := n1_
              clear n0_ n1_
              refine start_ (n := 61) (S := fun w' => w'.cell? ⟨gb701, 0, none⟩ = some (.int .i64 t696) ∧ w'.cell? ⟨gb701, 1, none⟩ = some (.int .i64 t697) ∧ w'.cell? ⟨gb701, 2, none⟩ = some (.int .i64 t698) ∧ w'.cell? ⟨gb701, 3, none⟩ = some (.int .i64 t699)) (ds := []) #[false, false, false, false, false, false, false, false, false, false, false, false, false, false, false, false, false, false, false, false, false, false, false, false, false, false, false, false, false, false, false, false, false, false, false, false, false, false, false, false, false, false, false, false, false, false, false, false, false, false, false, false, false, false, false, false, false, false, false, false, false] (by kernel_rfl) rfl rfl ⟨(blk_cell BK701.out 0).trans rfl, (blk_cell BK701.out 1).trans rfl, (blk_cell BK701.out 2).trans rfl, (blk_cell BK701.out 3).trans rfl⟩ (fun hHeld => ?_); refine with_tabW redlinelaw08_HistogramRun.tab24 redlinelaw08_HistogramRun.bits24 (fun HT_ HW_ => ?_)
              generalize wr.drew = w38 at BK701 HB hHeld ⊢
              refine pw_ 0 90 redlinelaw08_HistogramRun.aa_0 HT_.out ?_ (hc := redlinelaw08_HistogramRun.ck_23)
              refine take_ (i := 1) (N := some 91) (v := ?_) (a' := ?_) redlinelaw08_HistogramRun.aa_2 rfl rfl (take_ofW HT_.out HW_.out (by kernel_rfl)) (fun _ _ _ h => h) (Or.inl ⟨by rfl, ?_⟩) hHeld ?_ ?_
              rotate_left
              ·rintro w' ⟨s0, s1, s2, s3⟩
               go_simp
               with_reducible rfl
              rotate_left
              ·simp only [Act.put, List.setIfInBounds_toArray, List.set_cons_zero, List.set_cons_succ, i64_w, i32_w]
               rfl
              refine pw_ 2 92 redlinelaw08_HistogramRun.aa_3 HT_.out ?_ (hc := redlinelaw08_HistogramRun.ck_24)
              refine pw_ 3 93 redlinelaw08_HistogramRun.aa_4 HT_.out ?_ (hc := redlinelaw08_HistogramRun.ck_25)
              refine pw_ 4 94 redlinelaw08_HistogramRun.aa_5 HT_.out ?_ (hc := redlinelaw08_HistogramRun.ck_26)
              refine take_ (i := 5) (N := some 95) (v := ?_) (a' := ?_) redlinelaw08_HistogramRun.aa_6 rfl rfl (take_ofW HT_.out HW_.out (by kernel_rfl)) (fun _ _ _ h => h) (Or.inl ⟨by rfl, ?_⟩) hHeld ?_ ?_
              rotate_left
              ·rintro w' ⟨s0, s1, s2, s3⟩
               go_simp
               with_reducible rfl
              rotate_left
              ·simp only [Act.put, List.setIfInBounds_toArray, List.set_cons_zero, List.set_cons_succ, i64_w, i32_w]
               rfl
              refine pw_ 6 96 redlinelaw08_HistogramRun.aa_7 HT_.out ?_ (hc := redlinelaw08_HistogramRun.ck_28)
              refine pw_ 7 97 redlinelaw08_HistogramRun.aa_8 HT_.out ?_ (hc := redlinelaw08_HistogramRun.ck_29)
              refine pw_ 8 98 redlinelaw08_HistogramRun.aa_9 HT_.out ?_ (hc := redlinelaw08_HistogramRun.ck_30)
              refine pu_ 9 99 redlinelaw08_HistogramRun.aa_10 HT_.out ?_ (hc := redlinelaw08_HistogramRun.ck_31)
              refine pu_ 10 100 redlinelaw08_HistogramRun.aa_11 HT_.out ?_ (hc := redlinelaw08_HistogramRun.ck_32)
              refine pu_ 11 101 redlinelaw08_HistogramRun.aa_12 HT_.out ?_ (hc := redlinelaw08_HistogramRun.ck_33)
              refine pw_ 12 102 redlinelaw08_HistogramRun.aa_13 HT_.out ?_ (hc := redlinelaw08_HistogramRun.ck_34)
              refine pw_ 13 103 redlinelaw08_HistogramRun.aa_14 HT_.out ?_ (hc := redlinelaw08_HistogramRun.ck_35)
              refine pu_ 14 104 redlinelaw08_HistogramRun.aa_15 HT_.out ?_ (hc := redlinelaw08_HistogramRun.ck_36)
              refine pu_ 15 105 redlinelaw08_HistogramRun.aa_16 HT_.out ?_ (hc := redlinelaw08_HistogramRun.ck_37)
              refine pu_ 16 106 redlinelaw08_HistogramRun.aa_17 HT_.out ?_ (hc := redlinelaw08_HistogramRun.ck_38)
              refine pu_ 17 107 redlinelaw08_HistogramRun.aa_18 HT_.out ?_ (hc := redlinelaw08_HistogramRun.ck_39)
              refine pu_ 18 108 redlinelaw08_HistogramRun.aa_19 HT_.out ?_ (hc := redlinelaw08_HistogramRun.ck_40)
              refine pu_ 19 109 redlinelaw08_HistogramRun.aa_20 HT_.out ?_ (hc := redlinelaw08_HistogramRun.ck_41)
              refine pu_ 20 110 redlinelaw08_HistogramRun.aa_21 HT_.out ?_ (hc := redlinelaw08_HistogramRun.ck_42)
              refine pu_ 21 111 redlinelaw08_HistogramRun.aa_22 HT_.out ?_ (hc := redlinelaw08_HistogramRun.ck_43)
              refine pw_ 22 112 redlinelaw08_HistogramRun.aa_23 HT_.out ?_ (hc := redlinelaw08_HistogramRun.ck_44)
              refine pw_ 23 113 redlinelaw08_HistogramRun.aa_24 HT_.out ?_ (hc := redlinelaw08_HistogramRun.ck_45)
              refine pu_ 24 114 redlinelaw08_HistogramRun.aa_25 HT_.out ?_ (hc := redlinelaw08_HistogramRun.ck_46)
              refine pu_ 25 115 redlinelaw08_HistogramRun.aa_26 HT_.out ?_ (hc := redlinelaw08_HistogramRun.ck_47)
              refine pu_ 26 116 redlinelaw08_HistogramRun.aa_27 HT_.out ?_ (hc := redlinelaw08_HistogramRun.ck_48)
              refine pu_ 27 117 redlinelaw08_HistogramRun.aa_28 HT_.out ?_ (hc := redlinelaw08_HistogramRun.ck_49)
              refine pu_ 28 118 redlinelaw08_HistogramRun.aa_29 HT_.out ?_ (hc := redlinelaw08_HistogramRun.ck_50)
              refine pu_ 29 119 redlinelaw08_HistogramRun.aa_30 HT_.out ?_ (hc := redlinelaw08_HistogramRun.ck_51)
              refine pu_ 30 120 redlinelaw08_HistogramRun.aa_31 HT_.out ?_ (hc := redlinelaw08_HistogramRun.ck_52)
              refine pu_ 31 121 redlinelaw08_HistogramRun.aa_32 HT_.out ?_ (hc := redlinelaw08_HistogramRun.ck_53)
              refine pw_ 32 122 redlinelaw08_HistogramRun.aa_33 HT_.out ?_ (hc := redlinelaw08_HistogramRun.ck_54)
              refine pw_ 33 123 redlinelaw08_HistogramRun.aa_34 HT_.out ?_ (hc := redlinelaw08_HistogramRun.ck_55)
              refine pu_ 34 124 redlinelaw08_HistogramRun.aa_35 HT_.out ?_ (hc := redlinelaw08_HistogramRun.ck_56)
              refine pu_ 35 125 redlinelaw08_HistogramRun.aa_36 HT_.out ?_ (hc := redlinelaw08_HistogramRun.ck_57)
              refine pu_ 36 126 redlinelaw08_HistogramRun.aa_37 HT_.out ?_ (hc := redlinelaw08_HistogramRun.ck_58)
              refine pu_ 37 127 redlinelaw08_HistogramRun.aa_38 HT_.out ?_ (hc := redlinelaw08_HistogramRun.ck_59)
              refine pw_ 38 128 redlinelaw08_HistogramRun.aa_39 HT_.out ?_ (hc := redlinelaw08_HistogramRun.ck_60)
              refine pw_ 39 129 redlinelaw08_HistogramRun.aa_40 HT_.out ?_ (hc := redlinelaw08_HistogramRun.ck_61)
              refine pu_ 40 130 redlinelaw08_HistogramRun.aa_41 HT_.out ?_ (hc := redlinelaw08_HistogramRun.ck_62)
              refine pu_ 41 131 redlinelaw08_HistogramRun.aa_42 HT_.out ?_ (hc := redlinelaw08_HistogramRun.ck_63)
              refine pu_ 42 132 redlinelaw08_HistogramRun.aa_43 HT_.out ?_ (hc := redlinelaw08_HistogramRun.ck_64)
              refine pu_ 43 133 redlinelaw08_HistogramRun.aa_44 HT_.out ?_ (hc := redlinelaw08_HistogramRun.ck_65)
              refine pu_ 44 134 redlinelaw08_HistogramRun.aa_45 HT_.out ?_ (hc := redlinelaw08_HistogramRun.ck_66)
              refine pu_ 45 135 redlinelaw08_HistogramRun.aa_46 HT_.out ?_ (hc := redlinelaw08_HistogramRun.ck_67)
              refine pu_ 46 136 redlinelaw08_HistogramRun.aa_47 HT_.out ?_ (hc := redlinelaw08_HistogramRun.ck_68)
              refine pu_ 47 137 redlinelaw08_HistogramRun.aa_48 HT_.out ?_ (hc := redlinelaw08_HistogramRun.ck_69)
              refine pu_ 48 138 redlinelaw08_HistogramRun.aa_49 HT_.out ?_ (hc := redlinelaw08_HistogramRun.ck_70)
              refine pu_ 49 139 redlinelaw08_HistogramRun.aa_50 HT_.out ?_ (hc := redlinelaw08_HistogramRun.ck_71)
              refine pu_ 50 140 redlinelaw08_HistogramRun.aa_51 HT_.out ?_ (hc := redlinelaw08_HistogramRun.ck_72)
              refine pu_ 51 141 redlinelaw08_HistogramRun.aa_52 HT_.out ?_ (hc := redlinelaw08_HistogramRun.ck_73)
              refine pu_ 52 142 redlinelaw08_HistogramRun.aa_53 HT_.out ?_ (hc := redlinelaw08_HistogramRun.ck_74)
              refine pu_ 53 143 redlinelaw08_HistogramRun.aa_54 HT_.out ?_ (hc := redlinelaw08_HistogramRun.ck_75)
              refine pu_ 54 144 redlinelaw08_HistogramRun.aa_55 HT_.out ?_ (hc := redlinelaw08_HistogramRun.ck_76)
              refine pu_ 55 145 redlinelaw08_HistogramRun.aa_56 HT_.out ?_ (hc := redlinelaw08_HistogramRun.ck_77)
              refine pu_ 56 146 redlinelaw08_HistogramRun.aa_57 HT_.out ?_ (hc := redlinelaw08_HistogramRun.ck_78)
              refine pu_ 57 147 redlinelaw08_HistogramRun.aa_58 HT_.out ?_ (hc := redlinelaw08_HistogramRun.ck_79)
              refine pu_ 58 148 redlinelaw08_HistogramRun.aa_59 HT_.out ?_ (hc := redlinelaw08_HistogramRun.ck_80)
              refine pu_ 59 149 redlinelaw08_HistogramRun.aa_60 HT_.out ?_ (hc := redlinelaw08_HistogramRun.ck_81)
              refine pw_ 60 150 redlinelaw08_HistogramRun.aa_61 HT_.out ?_ (hc := redlinelaw08_HistogramRun.ck_82)
              refine done_ (done_of HT_.out (by kernel_rfl)) ?_
              try go_wp2
              go_meet
              case rel => exact ⟨_, (true), (by first | rfl | (simp; done) | (simp [*]; done)), H', ⟨by have := HJ4.out; have := HK2.out; first | omega | exact Nat.le_refl _⟩, ⟨by (with_reducible repeat (first | refine blk_drewN ?_ _ | refine blk_drew ?_ | refine blk_alloc ?_ _)); exact BK701.out⟩, ⟨by repeat (first | (with_reducible first | exact HB.out | apply below_alloc | apply pw_below_drewN | apply below_drew1 | refine below_set ?_ GE701.out) | exact HB.out)⟩⟩
            ·rw [if_neg c37] at H
             have c37b0 : decide (t697 < 0) = false := decide_eq_false c37
             clear c37
             by_cases c39 : t698 < 1
             ·as_aux_lemma =>
               rw [if_pos c39] at H
               have c39b0 : decide (t698 < 1) = true := decide_eq_true c39
               clear c39
               have H' := Aside0.mk H
               clear H
               try go_wp2
               have n0_ := Aside0.mk (blk_drew BK701.out)
               have n1_ := Aside0.mk (below_drew1 HB.out)
               clear BK701
               clear HB
               have BK701 := n0_
               have HB := n1_
               clear n0_ n1_
               refine start_ (n := 61) (S := fun w' => w'.cell? ⟨gb701, 0, none⟩ = some (.int .i64 t696) ∧ w'.cell? ⟨gb701, 1, none⟩ = some (.int .i64 t697) ∧ w'.cell? ⟨gb701, 2, none⟩ = some (.int .i64 t698) ∧ w'.cell? ⟨gb701, 3, none⟩ = some (.int .i64 t699)) (ds := []) #[false, false, false, false, false, false, false, false, false, false, false, false, false, false, false, false, false, false, false, false, false, false, false, false, false, false, false, false, false, false, false, false, false, false, false, false, false, false, false, false, false, false, false, false, false, false, false, false, false, false, false, false, false, false, false, false, false, false, false, false, false] (by kernel_rfl) rfl rfl ⟨(blk_cell BK701.out 0).trans rfl, (blk_cell BK701.out 1).trans rfl, (blk_cell BK701.out 2).trans rfl, (blk_cell BK701.out 3).trans rfl⟩ (fun hHeld => ?_); refine with_tabW redlinelaw08_HistogramRun.tab24 redlinelaw08_HistogramRun.bits24 (fun HT_ HW_ => ?_)
               generalize wr.drew = w40 at BK701 HB hHeld ⊢
               refine pw_ 0 90 redlinelaw08_HistogramRun.aa_0 HT_.out ?_ (hc := redlinelaw08_HistogramRun.ck_23)
               refine take_ (i := 1) (N := some 91) (v := ?_) (a' := ?_) redlinelaw08_HistogramRun.aa_2 rfl rfl (take_ofW HT_.out HW_.out (by kernel_rfl)) (fun _ _ _ h => h) (Or.inl ⟨by rfl, ?_⟩) hHeld ?_ ?_
               rotate_left
               ·rintro w' ⟨s0, s1, s2, s3⟩
                go_simp
                with_reducible rfl
               rotate_left
               ·simp only [Act.put, List.setIfInBounds_toArray, List.set_cons_zero, List.set_cons_succ, i64_w, i32_w]
                rfl
               refine pw_ 2 92 redlinelaw08_HistogramRun.aa_3 HT_.out ?_ (hc := redlinelaw08_HistogramRun.ck_24)
               refine pw_ 3 93 redlinelaw08_HistogramRun.aa_4 HT_.out ?_ (hc := redlinelaw08_HistogramRun.ck_25)
               refine pw_ 4 94 redlinelaw08_HistogramRun.aa_5 HT_.out ?_ (hc := redlinelaw08_HistogramRun.ck_26)
               refine take_ (i := 5) (N := some 95) (v := ?_) (a' := ?_) redlinelaw08_HistogramRun.aa_6 rfl rfl (take_ofW HT_.out HW_.out (by kernel_rfl)) (fun _ _ _ h => h) (Or.inl ⟨by rfl, ?_⟩) hHeld ?_ ?_
               rotate_left
               ·rintro w' ⟨s0, s1, s2, s3⟩
                go_simp
                with_reducible rfl
               rotate_left
               ·simp only [Act.put, List.setIfInBounds_toArray, List.set_cons_zero, List.set_cons_succ, i64_w, i32_w]
                rfl
               refine pw_ 6 96 redlinelaw08_HistogramRun.aa_7 HT_.out ?_ (hc := redlinelaw08_HistogramRun.ck_28)
               refine pw_ 7 97 redlinelaw08_HistogramRun.aa_8 HT_.out ?_ (hc := redlinelaw08_HistogramRun.ck_29)
               refine pw_ 8 98 redlinelaw08_HistogramRun.aa_9 HT_.out ?_ (hc := redlinelaw08_HistogramRun.ck_30)
               refine pw_ 9 99 redlinelaw08_HistogramRun.aa_10 HT_.out ?_ (hc := redlinelaw08_HistogramRun.ck_31)
               refine take_ (i := 10) (N := some 100) (v := ?_) (a' := ?_) redlinelaw08_HistogramRun.aa_11 rfl rfl (take_ofW HT_.out HW_.out (by kernel_rfl)) (fun _ _ _ h => h) (Or.inl ⟨by rfl, ?_⟩) hHeld ?_ ?_
               rotate_left
               ·rintro w' ⟨s0, s1, s2, s3⟩
                go_simp
                with_reducible rfl
               rotate_left
               ·simp only [Act.put, List.setIfInBounds_toArray, List.set_cons_zero, List.set_cons_succ, i64_w, i32_w]
                rfl
               refine pw_ 11 101 redlinelaw08_HistogramRun.aa_12 HT_.out ?_ (hc := redlinelaw08_HistogramRun.ck_33)
               refine pw_ 12 102 redlinelaw08_HistogramRun.aa_13 HT_.out ?_ (hc := redlinelaw08_HistogramRun.ck_34)
               refine pw_ 13 103 redlinelaw08_HistogramRun.aa_14 HT_.out ?_ (hc := redlinelaw08_HistogramRun.ck_35)
               refine pu_ 14 104 redlinelaw08_HistogramRun.aa_15 HT_.out ?_ (hc := redlinelaw08_HistogramRun.ck_36)
               refine pu_ 15 105 redlinelaw08_HistogramRun.aa_16 HT_.out ?_ (hc := redlinelaw08_HistogramRun.ck_37)
               refine pu_ 16 106 redlinelaw08_HistogramRun.aa_17 HT_.out ?_ (hc := redlinelaw08_HistogramRun.ck_38)
               refine pu_ 17 107 redlinelaw08_HistogramRun.aa_18 HT_.out ?_ (hc := redlinelaw08_HistogramRun.ck_39)
               refine pu_ 18 108 redlinelaw08_HistogramRun.aa_19 HT_.out ?_ (hc := redlinelaw08_HistogramRun.ck_40)
               refine pu_ 19 109 redlinelaw08_HistogramRun.aa_20 HT_.out ?_ (hc := redlinelaw08_HistogramRun.ck_41)
               refine pu_ 20 110 redlinelaw08_HistogramRun.aa_21 HT_.out ?_ (hc := redlinelaw08_HistogramRun.ck_42)
               refine pu_ 21 111 redlinelaw08_HistogramRun.aa_22 HT_.out ?_ (hc := redlinelaw08_HistogramRun.ck_43)
               refine pw_ 22 112 redlinelaw08_HistogramRun.aa_23 HT_.out ?_ (hc := redlinelaw08_HistogramRun.ck_44)
               refine pw_ 23 113 redlinelaw08_HistogramRun.aa_24 HT_.out ?_ (hc := redlinelaw08_HistogramRun.ck_45)
               refine pu_ 24 114 redlinelaw08_HistogramRun.aa_25 HT_.out ?_ (hc := redlinelaw08_HistogramRun.ck_46)
               refine pu_ 25 115 redlinelaw08_HistogramRun.aa_26 HT_.out ?_ (hc := redlinelaw08_HistogramRun.ck_47)
               refine pu_ 26 116 redlinelaw08_HistogramRun.aa_27 HT_.out ?_ (hc := redlinelaw08_HistogramRun.ck_48)
               refine pu_ 27 117 redlinelaw08_HistogramRun.aa_28 HT_.out ?_ (hc := redlinelaw08_HistogramRun.ck_49)
               refine pu_ 28 118 redlinelaw08_HistogramRun.aa_29 HT_.out ?_ (hc := redlinelaw08_HistogramRun.ck_50)
               refine pu_ 29 119 redlinelaw08_HistogramRun.aa_30 HT_.out ?_ (hc := redlinelaw08_HistogramRun.ck_51)
               refine pu_ 30 120 redlinelaw08_HistogramRun.aa_31 HT_.out ?_ (hc := redlinelaw08_HistogramRun.ck_52)
               refine pu_ 31 121 redlinelaw08_HistogramRun.aa_32 HT_.out ?_ (hc := redlinelaw08_HistogramRun.ck_53)
               refine pw_ 32 122 redlinelaw08_HistogramRun.aa_33 HT_.out ?_ (hc := redlinelaw08_HistogramRun.ck_54)
               refine pw_ 33 123 redlinelaw08_HistogramRun.aa_34 HT_.out ?_ (hc := redlinelaw08_HistogramRun.ck_55)
               refine pu_ 34 124 redlinelaw08_HistogramRun.aa_35 HT_.out ?_ (hc := redlinelaw08_HistogramRun.ck_56)
               refine pu_ 35 125 redlinelaw08_HistogramRun.aa_36 HT_.out ?_ (hc := redlinelaw08_HistogramRun.ck_57)
               refine pu_ 36 126 redlinelaw08_HistogramRun.aa_37 HT_.out ?_ (hc := redlinelaw08_HistogramRun.ck_58)
               refine pu_ 37 127 redlinelaw08_HistogramRun.aa_38 HT_.out ?_ (hc := redlinelaw08_HistogramRun.ck_59)
               refine pw_ 38 128 redlinelaw08_HistogramRun.aa_39 HT_.out ?_ (hc := redlinelaw08_HistogramRun.ck_60)
               refine pw_ 39 129 redlinelaw08_HistogramRun.aa_40 HT_.out ?_ (hc := redlinelaw08_HistogramRun.ck_61)
               refine pu_ 40 130 redlinelaw08_HistogramRun.aa_41 HT_.out ?_ (hc := redlinelaw08_HistogramRun.ck_62)
               refine pu_ 41 131 redlinelaw08_HistogramRun.aa_42 HT_.out ?_ (hc := redlinelaw08_HistogramRun.ck_63)
               refine pu_ 42 132 redlinelaw08_HistogramRun.aa_43 HT_.out ?_ (hc := redlinelaw08_HistogramRun.ck_64)
               refine pu_ 43 133 redlinelaw08_HistogramRun.aa_44 HT_.out ?_ (hc := redlinelaw08_HistogramRun.ck_65)
               refine pu_ 44 134 redlinelaw08_HistogramRun.aa_45 HT_.out ?_ (hc := redlinelaw08_HistogramRun.ck_66)
               refine pu_ 45 135 redlinelaw08_HistogramRun.aa_46 HT_.out ?_ (hc := redlinelaw08_HistogramRun.ck_67)
               refine pu_ 46 136 redlinelaw08_HistogramRun.aa_47 HT_.out ?_ (hc := redlinelaw08_HistogramRun.ck_68)
               refine pu_ 47 137 redlinelaw08_HistogramRun.aa_48 HT_.out ?_ (hc := redlinelaw08_HistogramRun.ck_69)
               refine pu_ 48 138 redlinelaw08_HistogramRun.aa_49 HT_.out ?_ (hc := redlinelaw08_HistogramRun.ck_70)
               refine pu_ 49 139 redlinelaw08_HistogramRun.aa_50 HT_.out ?_ (hc := redlinelaw08_HistogramRun.ck_71)
               refine pu_ 50 140 redlinelaw08_HistogramRun.aa_51 HT_.out ?_ (hc := redlinelaw08_HistogramRun.ck_72)
               refine pu_ 51 141 redlinelaw08_HistogramRun.aa_52 HT_.out ?_ (hc := redlinelaw08_HistogramRun.ck_73)
               refine pu_ 52 142 redlinelaw08_HistogramRun.aa_53 HT_.out ?_ (hc := redlinelaw08_HistogramRun.ck_74)
               refine pu_ 53 143 redlinelaw08_HistogramRun.aa_54 HT_.out ?_ (hc := redlinelaw08_HistogramRun.ck_75)
               refine pu_ 54 144 redlinelaw08_HistogramRun.aa_55 HT_.out ?_ (hc := redlinelaw08_HistogramRun.ck_76)
               refine pu_ 55 145 redlinelaw08_HistogramRun.aa_56 HT_.out ?_ (hc := redlinelaw08_HistogramRun.ck_77)
               refine pu_ 56 146 redlinelaw08_HistogramRun.aa_57 HT_.out ?_ (hc := redlinelaw08_HistogramRun.ck_78)
               refine pu_ 57 147 redlinelaw08_HistogramRun.aa_58 HT_.out ?_ (hc := redlinelaw08_HistogramRun.ck_79)
               refine pu_ 58 148 redlinelaw08_HistogramRun.aa_59 HT_.out ?_ (hc := redlinelaw08_HistogramRun.ck_80)
               refine pu_ 59 149 redlinelaw08_HistogramRun.aa_60 HT_.out ?_ (hc := redlinelaw08_HistogramRun.ck_81)
               refine pw_ 60 150 redlinelaw08_HistogramRun.aa_61 HT_.out ?_ (hc := redlinelaw08_HistogramRun.ck_82)
               refine done_ (done_of HT_.out (by kernel_rfl)) ?_
               try go_wp2
               go_meet
               case rel => exact ⟨_, (true), (by first | rfl | (simp; done) | (simp [*]; done)), H', ⟨by have := HJ4.out; have := HK2.out; first | omega | exact Nat.le_refl _⟩, ⟨by (with_reducible repeat (first | refine blk_drewN ?_ _ | refine blk_drew ?_ | refine blk_alloc ?_ _)); exact BK701.out⟩, ⟨by repeat (first | (with_reducible first | exact HB.out | apply below_alloc | apply pw_below_drewN | apply below_drew1 | refine below_set ?_ GE701.out) | exact HB.out)⟩⟩
             ·rw [if_neg c39] at H
              have c39b0 : decide (t698 < 1) = false := decide_eq_false c39
              clear c39
              by_cases c41 : t696 > (wrap64 ((l0.length : Int) - t698))
              ·as_aux_lemma =>
                rw [if_pos c41] at H
                have c41b0 : decide ((wrap64 ((l0.length : Int) - t698)) < t696) = true := decide_eq_true c41
                clear c41
                have H' := Aside0.mk H
                clear H
                try go_wp2
                have n0_ := Aside0.mk (blk_drew BK701.out)
                have n1_ := Aside0.mk (below_drew1 HB.out)
                clear BK701
                clear HB
                have BK701 := n0_
                have HB := n1_
                clear n0_ n1_
                refine start_ (n := 61) (S := fun w' => w'.cell? ⟨gb701, 0, none⟩ = some (.int .i64 t696) ∧ w'.cell? ⟨gb701, 1, none⟩ = some (.int .i64 t697) ∧ w'.cell? ⟨gb701, 2, none⟩ = some (.int .i64 t698) ∧ w'.cell? ⟨gb701, 3, none⟩ = some (.int .i64 t699)) (ds := []) #[false, false, false, false, false, false, false, false, false, false, false, false, false, false, false, false, false, false, false, false, false, false, false, false, false, false, false, false, false, false, false, false, false, false, false, false, false, false, false, false, false, false, false, false, false, false, false, false, false, false, false, false, false, false, false, false, false, false, false, false, false] (by kernel_rfl) rfl rfl ⟨(blk_cell BK701.out 0).trans rfl, (blk_cell BK701.out 1).trans rfl, (blk_cell BK701.out 2).trans rfl, (blk_cell BK701.out 3).trans rfl⟩ (fun hHeld => ?_); refine with_tabW redlinelaw08_HistogramRun.tab24 redlinelaw08_HistogramRun.bits24 (fun HT_ HW_ => ?_)
                generalize wr.drew = w42 at BK701 HB hHeld ⊢
                refine pw_ 0 90 redlinelaw08_HistogramRun.aa_0 HT_.out ?_ (hc := redlinelaw08_HistogramRun.ck_23)
                refine take_ (i := 1) (N := some 91) (v := ?_) (a' := ?_) redlinelaw08_HistogramRun.aa_2 rfl rfl (take_ofW HT_.out HW_.out (by kernel_rfl)) (fun _ _ _ h => h) (Or.inl ⟨by rfl, ?_⟩) hHeld ?_ ?_
                rotate_left
                ·rintro w' ⟨s0, s1, s2, s3⟩
                 go_simp
                 with_reducible rfl
                rotate_left
                ·simp only [Act.put, List.setIfInBounds_toArray, List.set_cons_zero, List.set_cons_succ, i64_w, i32_w]
                 rfl
                refine pw_ 2 92 redlinelaw08_HistogramRun.aa_3 HT_.out ?_ (hc := redlinelaw08_HistogramRun.ck_24)
                refine pw_ 3 93 redlinelaw08_HistogramRun.aa_4 HT_.out ?_ (hc := redlinelaw08_HistogramRun.ck_25)
                refine pw_ 4 94 redlinelaw08_HistogramRun.aa_5 HT_.out ?_ (hc := redlinelaw08_HistogramRun.ck_26)
                refine take_ (i := 5) (N := some 95) (v := ?_) (a' := ?_) redlinelaw08_HistogramRun.aa_6 rfl rfl (take_ofW HT_.out HW_.out (by kernel_rfl)) (fun _ _ _ h => h) (Or.inl ⟨by rfl, ?_⟩) hHeld ?_ ?_
                rotate_left
                ·rintro w' ⟨s0, s1, s2, s3⟩
                 go_simp
                 with_reducible rfl
                rotate_left
                ·simp only [Act.put, List.setIfInBounds_toArray, List.set_cons_zero, List.set_cons_succ, i64_w, i32_w]
                 rfl
                refine pw_ 6 96 redlinelaw08_HistogramRun.aa_7 HT_.out ?_ (hc := redlinelaw08_HistogramRun.ck_28)
                refine pw_ 7 97 redlinelaw08_HistogramRun.aa_8 HT_.out ?_ (hc := redlinelaw08_HistogramRun.ck_29)
                refine pw_ 8 98 redlinelaw08_HistogramRun.aa_9 HT_.out ?_ (hc := redlinelaw08_HistogramRun.ck_30)
                refine pw_ 9 99 redlinelaw08_HistogramRun.aa_10 HT_.out ?_ (hc := redlinelaw08_HistogramRun.ck_31)
                refine take_ (i := 10) (N := some 100) (v := ?_) (a' := ?_) redlinelaw08_HistogramRun.aa_11 rfl rfl (take_ofW HT_.out HW_.out (by kernel_rfl)) (fun _ _ _ h => h) (Or.inl ⟨by rfl, ?_⟩) hHeld ?_ ?_
                rotate_left
                ·rintro w' ⟨s0, s1, s2, s3⟩
                 go_simp
                 with_reducible rfl
                rotate_left
                ·simp only [Act.put, List.setIfInBounds_toArray, List.set_cons_zero, List.set_cons_succ, i64_w, i32_w]
                 rfl
                refine pw_ 11 101 redlinelaw08_HistogramRun.aa_12 HT_.out ?_ (hc := redlinelaw08_HistogramRun.ck_33)
                refine pw_ 12 102 redlinelaw08_HistogramRun.aa_13 HT_.out ?_ (hc := redlinelaw08_HistogramRun.ck_34)
                refine pw_ 13 103 redlinelaw08_HistogramRun.aa_14 HT_.out ?_ (hc := redlinelaw08_HistogramRun.ck_35)
                refine pw_ 14 104 redlinelaw08_HistogramRun.aa_15 HT_.out ?_ (hc := redlinelaw08_HistogramRun.ck_36)
                refine pw_ 16 106 redlinelaw08_HistogramRun.aa_62 HT_.out ?_ (hc := redlinelaw08_HistogramRun.ck_83)
                refine pw_ 17 107 redlinelaw08_HistogramRun.aa_63 HT_.out ?_ (hc := redlinelaw08_HistogramRun.ck_84)
                refine pw_ 18 108 redlinelaw08_HistogramRun.aa_64 HT_.out ?_ (hc := redlinelaw08_HistogramRun.ck_85)
                refine take_ (i := 15) (N := some 105) (v := ?_) (a' := ?_) redlinelaw08_HistogramRun.aa_19 rfl rfl (take_ofW HT_.out HW_.out (by kernel_rfl)) (fun _ _ _ h => h) (Or.inl ⟨by rfl, ?_⟩) hHeld ?_ ?_
                rotate_left
                ·rintro w' ⟨s0, s1, s2, s3⟩
                 go_simp
                 with_reducible rfl
                rotate_left
                ·simp only [Act.put, List.setIfInBounds_toArray, List.set_cons_zero, List.set_cons_succ, i64_w, i32_w]
                 rfl
                refine take_ (i := 19) (N := some 109) (v := ?_) (a' := ?_) redlinelaw08_HistogramRun.aa_20 rfl rfl (take_ofW HT_.out HW_.out (by kernel_rfl)) (fun _ _ _ h => h) (Or.inl ⟨by rfl, ?_⟩) hHeld ?_ ?_
                rotate_left
                ·rintro w' ⟨s0, s1, s2, s3⟩
                 go_simp
                 with_reducible rfl
                rotate_left
                ·simp only [Act.put, List.setIfInBounds_toArray, List.set_cons_zero, List.set_cons_succ, i64_w, i32_w]
                 rfl
                refine pw_ 20 110 redlinelaw08_HistogramRun.aa_21 HT_.out ?_ (hc := redlinelaw08_HistogramRun.ck_42)
                refine pw_ 21 111 redlinelaw08_HistogramRun.aa_22 HT_.out ?_ (hc := redlinelaw08_HistogramRun.ck_43)
                refine pw_ 22 112 redlinelaw08_HistogramRun.aa_23 HT_.out ?_ (hc := redlinelaw08_HistogramRun.ck_44)
                refine pw_ 23 113 redlinelaw08_HistogramRun.aa_24 HT_.out ?_ (hc := redlinelaw08_HistogramRun.ck_45)
                refine pu_ 24 114 redlinelaw08_HistogramRun.aa_25 HT_.out ?_ (hc := redlinelaw08_HistogramRun.ck_46)
                refine pu_ 25 115 redlinelaw08_HistogramRun.aa_26 HT_.out ?_ (hc := redlinelaw08_HistogramRun.ck_47)
                refine pu_ 26 116 redlinelaw08_HistogramRun.aa_27 HT_.out ?_ (hc := redlinelaw08_HistogramRun.ck_48)
                refine pu_ 27 117 redlinelaw08_HistogramRun.aa_28 HT_.out ?_ (hc := redlinelaw08_HistogramRun.ck_49)
                refine pu_ 28 118 redlinelaw08_HistogramRun.aa_29 HT_.out ?_ (hc := redlinelaw08_HistogramRun.ck_50)
                refine pu_ 29 119 redlinelaw08_HistogramRun.aa_30 HT_.out ?_ (hc := redlinelaw08_HistogramRun.ck_51)
                refine pu_ 30 120 redlinelaw08_HistogramRun.aa_31 HT_.out ?_ (hc := redlinelaw08_HistogramRun.ck_52)
                refine pu_ 31 121 redlinelaw08_HistogramRun.aa_32 HT_.out ?_ (hc := redlinelaw08_HistogramRun.ck_53)
                refine pw_ 32 122 redlinelaw08_HistogramRun.aa_33 HT_.out ?_ (hc := redlinelaw08_HistogramRun.ck_54)
                refine pw_ 33 123 redlinelaw08_HistogramRun.aa_34 HT_.out ?_ (hc := redlinelaw08_HistogramRun.ck_55)
                refine pu_ 34 124 redlinelaw08_HistogramRun.aa_35 HT_.out ?_ (hc := redlinelaw08_HistogramRun.ck_56)
                refine pu_ 35 125 redlinelaw08_HistogramRun.aa_36 HT_.out ?_ (hc := redlinelaw08_HistogramRun.ck_57)
                refine pu_ 36 126 redlinelaw08_HistogramRun.aa_37 HT_.out ?_ (hc := redlinelaw08_HistogramRun.ck_58)
                refine pu_ 37 127 redlinelaw08_HistogramRun.aa_38 HT_.out ?_ (hc := redlinelaw08_HistogramRun.ck_59)
                refine pw_ 38 128 redlinelaw08_HistogramRun.aa_39 HT_.out ?_ (hc := redlinelaw08_HistogramRun.ck_60)
                refine pw_ 39 129 redlinelaw08_HistogramRun.aa_40 HT_.out ?_ (hc := redlinelaw08_HistogramRun.ck_61)
                refine pu_ 40 130 redlinelaw08_HistogramRun.aa_41 HT_.out ?_ (hc := redlinelaw08_HistogramRun.ck_62)
                refine pu_ 41 131 redlinelaw08_HistogramRun.aa_42 HT_.out ?_ (hc := redlinelaw08_HistogramRun.ck_63)
                refine pu_ 42 132 redlinelaw08_HistogramRun.aa_43 HT_.out ?_ (hc := redlinelaw08_HistogramRun.ck_64)
                refine pu_ 43 133 redlinelaw08_HistogramRun.aa_44 HT_.out ?_ (hc := redlinelaw08_HistogramRun.ck_65)
                refine pu_ 44 134 redlinelaw08_HistogramRun.aa_45 HT_.out ?_ (hc := redlinelaw08_HistogramRun.ck_66)
                refine pu_ 45 135 redlinelaw08_HistogramRun.aa_46 HT_.out ?_ (hc := redlinelaw08_HistogramRun.ck_67)
                refine pu_ 46 136 redlinelaw08_HistogramRun.aa_47 HT_.out ?_ (hc := redlinelaw08_HistogramRun.ck_68)
                refine pu_ 47 137 redlinelaw08_HistogramRun.aa_48 HT_.out ?_ (hc := redlinelaw08_HistogramRun.ck_69)
                refine pu_ 48 138 redlinelaw08_HistogramRun.aa_49 HT_.out ?_ (hc := redlinelaw08_HistogramRun.ck_70)
                refine pu_ 49 139 redlinelaw08_HistogramRun.aa_50 HT_.out ?_ (hc := redlinelaw08_HistogramRun.ck_71)
                refine pu_ 50 140 redlinelaw08_HistogramRun.aa_51 HT_.out ?_ (hc := redlinelaw08_HistogramRun.ck_72)
                refine pu_ 51 141 redlinelaw08_HistogramRun.aa_52 HT_.out ?_ (hc := redlinelaw08_HistogramRun.ck_73)
                refine pu_ 52 142 redlinelaw08_HistogramRun.aa_53 HT_.out ?_ (hc := redlinelaw08_HistogramRun.ck_74)
                refine pu_ 53 143 redlinelaw08_HistogramRun.aa_54 HT_.out ?_ (hc := redlinelaw08_HistogramRun.ck_75)
                refine pu_ 54 144 redlinelaw08_HistogramRun.aa_55 HT_.out ?_ (hc := redlinelaw08_HistogramRun.ck_76)
                refine pu_ 55 145 redlinelaw08_HistogramRun.aa_56 HT_.out ?_ (hc := redlinelaw08_HistogramRun.ck_77)
                refine pu_ 56 146 redlinelaw08_HistogramRun.aa_57 HT_.out ?_ (hc := redlinelaw08_HistogramRun.ck_78)
                refine pu_ 57 147 redlinelaw08_HistogramRun.aa_58 HT_.out ?_ (hc := redlinelaw08_HistogramRun.ck_79)
                refine pu_ 58 148 redlinelaw08_HistogramRun.aa_59 HT_.out ?_ (hc := redlinelaw08_HistogramRun.ck_80)
                refine pu_ 59 149 redlinelaw08_HistogramRun.aa_60 HT_.out ?_ (hc := redlinelaw08_HistogramRun.ck_81)
                refine pw_ 60 150 redlinelaw08_HistogramRun.aa_61 HT_.out ?_ (hc := redlinelaw08_HistogramRun.ck_82)
                refine done_ (done_of HT_.out (by kernel_rfl)) ?_
                try go_wp2
                go_meet
                case rel => exact ⟨_, (true), (by first | rfl | (simp; done) | (simp [*]; done)), H', ⟨by have := HJ4.out; have := HK2.out; first | omega | exact Nat.le_refl _⟩, ⟨by (with_reducible repeat (first | refine blk_drewN ?_ _ | refine blk_drew ?_ | refine blk_alloc ?_ _)); exact BK701.out⟩, ⟨by repeat (first | (with_reducible first | exact HB.out | apply below_alloc | apply pw_below_drewN | apply below_drew1 | refine below_set ?_ GE701.out) | exact HB.out)⟩⟩
              ·rw [if_neg c41] at H
               have c41b0 : decide ((wrap64 ((l0.length : Int) - t698)) < t696) = false := decide_eq_false c41
               clear c41
               by_cases c43 : t697 > (wrap64 ((l1.length : Int) - t698))
               ·as_aux_lemma =>
                 rw [if_pos c43] at H
                 have c43b0 : decide ((wrap64 ((l1.length : Int) - t698)) < t697) = true := decide_eq_true c43
                 clear c43
                 have H' := Aside0.mk H
                 clear H
                 try go_wp2
                 have n0_ := Aside0.mk (blk_drew BK701.out)
                 have n1_ := Aside0.mk (below_drew1 HB.out)
                 clear BK701
                 clear HB
                 have BK701 := n0_
                 have HB := n1_
                 clear n0_ n1_
                 refine start_ (n := 61) (S := fun w' => w'.cell? ⟨gb701, 0, none⟩ = some (.int .i64 t696) ∧ w'.cell? ⟨gb701, 1, none⟩ = some (.int .i64 t697) ∧ w'.cell? ⟨gb701, 2, none⟩ = some (.int .i64 t698) ∧ w'.cell? ⟨gb701, 3, none⟩ = some (.int .i64 t699)) (ds := []) #[false, false, false, false, false, false, false, false, false, false, false, false, false, false, false, false, false, false, false, false, false, false, false, false, false, false, false, false, false, false, false, false, false, false, false, false, false, false, false, false, false, false, false, false, false, false, false, false, false, false, false, false, false, false, false, false, false, false, false, false, false] (by kernel_rfl) rfl rfl ⟨(blk_cell BK701.out 0).trans rfl, (blk_cell BK701.out 1).trans rfl, (blk_cell BK701.out 2).trans rfl, (blk_cell BK701.out 3).trans rfl⟩ (fun hHeld => ?_); refine with_tabW redlinelaw08_HistogramRun.tab24 redlinelaw08_HistogramRun.bits24 (fun HT_ HW_ => ?_)
                 generalize wr.drew = w44 at BK701 HB hHeld ⊢
                 refine pw_ 0 90 redlinelaw08_HistogramRun.aa_0 HT_.out ?_ (hc := redlinelaw08_HistogramRun.ck_23)
                 refine take_ (i := 1) (N := some 91) (v := ?_) (a' := ?_) redlinelaw08_HistogramRun.aa_2 rfl rfl (take_ofW HT_.out HW_.out (by kernel_rfl)) (fun _ _ _ h => h) (Or.inl ⟨by rfl, ?_⟩) hHeld ?_ ?_
                 rotate_left
                 ·rintro w' ⟨s0, s1, s2, s3⟩
                  go_simp
                  with_reducible rfl
                 rotate_left
                 ·simp only [Act.put, List.setIfInBounds_toArray, List.set_cons_zero, List.set_cons_succ, i64_w, i32_w]
                  rfl
                 refine pw_ 2 92 redlinelaw08_HistogramRun.aa_3 HT_.out ?_ (hc := redlinelaw08_HistogramRun.ck_24)
                 refine pw_ 3 93 redlinelaw08_HistogramRun.aa_4 HT_.out ?_ (hc := redlinelaw08_HistogramRun.ck_25)
                 refine pw_ 4 94 redlinelaw08_HistogramRun.aa_5 HT_.out ?_ (hc := redlinelaw08_HistogramRun.ck_26)
                 refine take_ (i := 5) (N := some 95) (v := ?_) (a' := ?_) redlinelaw08_HistogramRun.aa_6 rfl rfl (take_ofW HT_.out HW_.out (by kernel_rfl)) (fun _ _ _ h => h) (Or.inl ⟨by rfl, ?_⟩) hHeld ?_ ?_
                 rotate_left
                 ·rintro w' ⟨s0, s1, s2, s3⟩
                  go_simp
                  with_reducible rfl
                 rotate_left
                 ·simp only [Act.put, List.setIfInBounds_toArray, List.set_cons_zero, List.set_cons_succ, i64_w, i32_w]
                  rfl
                 refine pw_ 6 96 redlinelaw08_HistogramRun.aa_7 HT_.out ?_ (hc := redlinelaw08_HistogramRun.ck_28)
                 refine pw_ 7 97 redlinelaw08_HistogramRun.aa_8 HT_.out ?_ (hc := redlinelaw08_HistogramRun.ck_29)
                 refine pw_ 8 98 redlinelaw08_HistogramRun.aa_9 HT_.out ?_ (hc := redlinelaw08_HistogramRun.ck_30)
                 refine pw_ 9 99 redlinelaw08_HistogramRun.aa_10 HT_.out ?_ (hc := redlinelaw08_HistogramRun.ck_31)
                 refine take_ (i := 10) (N := some 100) (v := ?_) (a' := ?_) redlinelaw08_HistogramRun.aa_11 rfl rfl (take_ofW HT_.out HW_.out (by kernel_rfl)) (fun _ _ _ h => h) (Or.inl ⟨by rfl, ?_⟩) hHeld ?_ ?_
                 rotate_left
                 ·rintro w' ⟨s0, s1, s2, s3⟩
                  go_simp
                  with_reducible rfl
                 rotate_left
                 ·simp only [Act.put, List.setIfInBounds_toArray, List.set_cons_zero, List.set_cons_succ, i64_w, i32_w]
                  rfl
                 refine pw_ 11 101 redlinelaw08_HistogramRun.aa_12 HT_.out ?_ (hc := redlinelaw08_HistogramRun.ck_33)
                 refine pw_ 12 102 redlinelaw08_HistogramRun.aa_13 HT_.out ?_ (hc := redlinelaw08_HistogramRun.ck_34)
                 refine pw_ 13 103 redlinelaw08_HistogramRun.aa_14 HT_.out ?_ (hc := redlinelaw08_HistogramRun.ck_35)
                 refine pw_ 14 104 redlinelaw08_HistogramRun.aa_15 HT_.out ?_ (hc := redlinelaw08_HistogramRun.ck_36)
                 refine pw_ 16 106 redlinelaw08_HistogramRun.aa_62 HT_.out ?_ (hc := redlinelaw08_HistogramRun.ck_83)
                 refine pw_ 17 107 redlinelaw08_HistogramRun.aa_63 HT_.out ?_ (hc := redlinelaw08_HistogramRun.ck_84)
                 refine pw_ 18 108 redlinelaw08_HistogramRun.aa_64 HT_.out ?_ (hc := redlinelaw08_HistogramRun.ck_85)
                 refine take_ (i := 15) (N := some 105) (v := ?_) (a' := ?_) redlinelaw08_HistogramRun.aa_19 rfl rfl (take_ofW HT_.out HW_.out (by kernel_rfl)) (fun _ _ _ h => h) (Or.inl ⟨by rfl, ?_⟩) hHeld ?_ ?_
                 rotate_left
                 ·rintro w' ⟨s0, s1, s2, s3⟩
                  go_simp
                  with_reducible rfl
                 rotate_left
                 ·simp only [Act.put, List.setIfInBounds_toArray, List.set_cons_zero, List.set_cons_succ, i64_w, i32_w]
                  rfl
                 refine take_ (i := 19) (N := some 109) (v := ?_) (a' := ?_) redlinelaw08_HistogramRun.aa_20 rfl rfl (take_ofW HT_.out HW_.out (by kernel_rfl)) (fun _ _ _ h => h) (Or.inl ⟨by rfl, ?_⟩) hHeld ?_ ?_
                 rotate_left
                 ·rintro w' ⟨s0, s1, s2, s3⟩
                  go_simp
                  with_reducible rfl
                 rotate_left
                 ·simp only [Act.put, List.setIfInBounds_toArray, List.set_cons_zero, List.set_cons_succ, i64_w, i32_w]
                  rfl
                 refine pw_ 20 110 redlinelaw08_HistogramRun.aa_21 HT_.out ?_ (hc := redlinelaw08_HistogramRun.ck_42)
                 refine pw_ 21 111 redlinelaw08_HistogramRun.aa_22 HT_.out ?_ (hc := redlinelaw08_HistogramRun.ck_43)
                 refine pw_ 22 112 redlinelaw08_HistogramRun.aa_23 HT_.out ?_ (hc := redlinelaw08_HistogramRun.ck_44)
                 refine pw_ 23 113 redlinelaw08_HistogramRun.aa_24 HT_.out ?_ (hc := redlinelaw08_HistogramRun.ck_45)
                 refine pw_ 24 114 redlinelaw08_HistogramRun.aa_25 HT_.out ?_ (hc := redlinelaw08_HistogramRun.ck_46)
                 refine pw_ 26 116 redlinelaw08_HistogramRun.aa_65 HT_.out ?_ (hc := redlinelaw08_HistogramRun.ck_86)
                 refine pw_ 27 117 redlinelaw08_HistogramRun.aa_66 HT_.out ?_ (hc := redlinelaw08_HistogramRun.ck_87)
                 refine pw_ 28 118 redlinelaw08_HistogramRun.aa_67 HT_.out ?_ (hc := redlinelaw08_HistogramRun.ck_88)
                 refine take_ (i := 25) (N := some 115) (v := ?_) (a' := ?_) redlinelaw08_HistogramRun.aa_29 rfl rfl (take_ofW HT_.out HW_.out (by kernel_rfl)) (fun _ _ _ h => h) (Or.inl ⟨by rfl, ?_⟩) hHeld ?_ ?_
                 rotate_left
                 ·rintro w' ⟨s0, s1, s2, s3⟩
                  go_simp
                  with_reducible rfl
                 rotate_left
                 ·simp only [Act.put, List.setIfInBounds_toArray, List.set_cons_zero, List.set_cons_succ, i64_w, i32_w]
                  rfl
                 refine take_ (i := 29) (N := some 119) (v := ?_) (a' := ?_) redlinelaw08_HistogramRun.aa_30 rfl rfl (take_ofW HT_.out HW_.out (by kernel_rfl)) (fun _ _ _ h => h) (Or.inl ⟨by rfl, ?_⟩) hHeld ?_ ?_
                 rotate_left
                 ·rintro w' ⟨s0, s1, s2, s3⟩
                  go_simp
                  with_reducible rfl
                 rotate_left
                 ·simp only [Act.put, List.setIfInBounds_toArray, List.set_cons_zero, List.set_cons_succ, i64_w, i32_w]
                  rfl
                 refine pw_ 30 120 redlinelaw08_HistogramRun.aa_31 HT_.out ?_ (hc := redlinelaw08_HistogramRun.ck_52)
                 refine pw_ 31 121 redlinelaw08_HistogramRun.aa_32 HT_.out ?_ (hc := redlinelaw08_HistogramRun.ck_53)
                 refine pw_ 32 122 redlinelaw08_HistogramRun.aa_33 HT_.out ?_ (hc := redlinelaw08_HistogramRun.ck_54)
                 refine pw_ 33 123 redlinelaw08_HistogramRun.aa_34 HT_.out ?_ (hc := redlinelaw08_HistogramRun.ck_55)
                 refine pu_ 34 124 redlinelaw08_HistogramRun.aa_35 HT_.out ?_ (hc := redlinelaw08_HistogramRun.ck_56)
                 refine pu_ 35 125 redlinelaw08_HistogramRun.aa_36 HT_.out ?_ (hc := redlinelaw08_HistogramRun.ck_57)
                 refine pu_ 36 126 redlinelaw08_HistogramRun.aa_37 HT_.out ?_ (hc := redlinelaw08_HistogramRun.ck_58)
                 refine pu_ 37 127 redlinelaw08_HistogramRun.aa_38 HT_.out ?_ (hc := redlinelaw08_HistogramRun.ck_59)
                 refine pw_ 38 128 redlinelaw08_HistogramRun.aa_39 HT_.out ?_ (hc := redlinelaw08_HistogramRun.ck_60)
                 refine pw_ 39 129 redlinelaw08_HistogramRun.aa_40 HT_.out ?_ (hc := redlinelaw08_HistogramRun.ck_61)
                 refine pu_ 40 130 redlinelaw08_HistogramRun.aa_41 HT_.out ?_ (hc := redlinelaw08_HistogramRun.ck_62)
                 refine pu_ 41 131 redlinelaw08_HistogramRun.aa_42 HT_.out ?_ (hc := redlinelaw08_HistogramRun.ck_63)
                 refine pu_ 42 132 redlinelaw08_HistogramRun.aa_43 HT_.out ?_ (hc := redlinelaw08_HistogramRun.ck_64)
                 refine pu_ 43 133 redlinelaw08_HistogramRun.aa_44 HT_.out ?_ (hc := redlinelaw08_HistogramRun.ck_65)
                 refine pu_ 44 134 redlinelaw08_HistogramRun.aa_45 HT_.out ?_ (hc := redlinelaw08_HistogramRun.ck_66)
                 refine pu_ 45 135 redlinelaw08_HistogramRun.aa_46 HT_.out ?_ (hc := redlinelaw08_HistogramRun.ck_67)
                 refine pu_ 46 136 redlinelaw08_HistogramRun.aa_47 HT_.out ?_ (hc := redlinelaw08_HistogramRun.ck_68)
                 refine pu_ 47 137 redlinelaw08_HistogramRun.aa_48 HT_.out ?_ (hc := redlinelaw08_HistogramRun.ck_69)
                 refine pu_ 48 138 redlinelaw08_HistogramRun.aa_49 HT_.out ?_ (hc := redlinelaw08_HistogramRun.ck_70)
                 refine pu_ 49 139 redlinelaw08_HistogramRun.aa_50 HT_.out ?_ (hc := redlinelaw08_HistogramRun.ck_71)
                 refine pu_ 50 140 redlinelaw08_HistogramRun.aa_51 HT_.out ?_ (hc := redlinelaw08_HistogramRun.ck_72)
                 refine pu_ 51 141 redlinelaw08_HistogramRun.aa_52 HT_.out ?_ (hc := redlinelaw08_HistogramRun.ck_73)
                 refine pu_ 52 142 redlinelaw08_HistogramRun.aa_53 HT_.out ?_ (hc := redlinelaw08_HistogramRun.ck_74)
                 refine pu_ 53 143 redlinelaw08_HistogramRun.aa_54 HT_.out ?_ (hc := redlinelaw08_HistogramRun.ck_75)
                 refine pu_ 54 144 redlinelaw08_HistogramRun.aa_55 HT_.out ?_ (hc := redlinelaw08_HistogramRun.ck_76)
                 refine pu_ 55 145 redlinelaw08_HistogramRun.aa_56 HT_.out ?_ (hc := redlinelaw08_HistogramRun.ck_77)
                 refine pu_ 56 146 redlinelaw08_HistogramRun.aa_57 HT_.out ?_ (hc := redlinelaw08_HistogramRun.ck_78)
                 refine pu_ 57 147 redlinelaw08_HistogramRun.aa_58 HT_.out ?_ (hc := redlinelaw08_HistogramRun.ck_79)
                 refine pu_ 58 148 redlinelaw08_HistogramRun.aa_59 HT_.out ?_ (hc := redlinelaw08_HistogramRun.ck_80)
                 refine pu_ 59 149 redlinelaw08_HistogramRun.aa_60 HT_.out ?_ (hc := redlinelaw08_HistogramRun.ck_81)
                 refine pw_ 60 150 redlinelaw08_HistogramRun.aa_61 HT_.out ?_ (hc := redlinelaw08_HistogramRun.ck_82)
                 refine done_ (done_of HT_.out (by kernel_rfl)) ?_
                 try go_wp2
                 go_meet
                 case rel => exact ⟨_, (true), (by first | rfl | (simp; done) | (simp [*]; done)), H', ⟨by have := HJ4.out; have := HK2.out; first | omega | exact Nat.le_refl _⟩, ⟨by (with_reducible repeat (first | refine blk_drewN ?_ _ | refine blk_drew ?_ | refine blk_alloc ?_ _)); exact BK701.out⟩, ⟨by repeat (first | (with_reducible first | exact HB.out | apply below_alloc | apply pw_below_drewN | apply below_drew1 | refine below_set ?_ GE701.out) | exact HB.out)⟩⟩
               ·rw [if_neg c43] at H
                have c43b0 : decide ((wrap64 ((l1.length : Int) - t698)) < t697) = false := decide_eq_false c43
                clear c43
                by_cases c45 : t699 = x7_2
                ·rw [if_pos c45] at H
                 have c45b0 : (t699 == x7_2) = true := beq_iff_eq.mpr c45
                 have c45b1 : (t699 != x7_2) = false := bne_eq_false_iff_eq.mpr c45
                 clear c45
                 by_cases c46 : 0 ≤ t696
                 ·rw [if_pos c46] at H
                  have c46b0 := eq_true c46
                  have c46b1 : decide (0 ≤ t696) = true := decide_eq_true c46
                  clear c46
                  by_cases c47 : t696 ≤ (wrap64 (t696 + t698))
                  ·rw [if_pos c47] at H
                   have c47b0 := eq_true c47
                   have c47b1 : decide (t696 ≤ (wrap64 (t696 + t698))) = true := decide_eq_true c47
                   by_cases c48 : (wrap64 (t696 + t698)) ≤ (l0.length : Int)
                   ·rw [if_pos c48] at H
                    have c48b0 := eq_true c48
                    have c48b1 : decide ((wrap64 (t696 + t698)) ≤ (l0.length : Int)) = true := decide_eq_true c48
                    by_cases c49 : 0 ≤ t697
                    ·rw [if_pos c49] at H
                     have c49b0 := eq_true c49
                     have c49b1 : decide (0 ≤ t697) = true := decide_eq_true c49
                     clear c49
                     by_cases c50 : t697 ≤ (wrap64 (t697 + t698))
                     ·rw [if_pos c50] at H
                      have c50b0 := eq_true c50
                      have c50b1 : decide (t697 ≤ (wrap64 (t697 + t698))) = true := decide_eq_true c50
                      by_cases c51 : (wrap64 (t697 + t698)) ≤ (l1.length : Int)
                      ·as_aux_lemma =>
                        rw [if_pos c51] at H
                        have c51b0 := eq_true c51
                        have c51b1 : decide ((wrap64 (t697 + t698)) ≤ (l1.length : Int)) = true := decide_eq_true c51
                        replace H := Option.bind_eq_some_iff.mp H
                        obtain ⟨t708, A520, H⟩ := H
                        replace H : (redlinelaw08_HistogramRun.j7 k2 l0 l1 (!t708) t696 t697 t698 t699) = some r := H
                        have A52 := Aside0.mk A520
                        clear A520
                        have H' := Aside0.mk H
                        clear H
                        try go_wp2
                        have n0_ := Aside0.mk (blk_drew BK701.out)
                        have n1_ := Aside0.mk (below_drew1 HB.out)
                        clear BK701
                        clear HB
                        have BK701 := n0_
                        have HB := n1_
                        clear n0_ n1_
                        obtain ⟨i054, hi054, _, hsz54, _⟩ := info_parts info3
                        obtain ⟨A54, hcut54, hA54, hC54⟩ := print_mid_of (P := Try.prog) (Value.int .i64) 0 22 3 .i64 .i64 Try.underlying22 hi054 hsz54 A0 c0 l0 t696 (wrap64 (t696 + t698)) (of_decide_eq_true (by first | (with_reducible assumption) | assumption)) (by first | omega | exact of_decide_eq_true (by first | (with_reducible assumption) | assumption)) (of_decide_eq_true (by first | (with_reducible assumption) | assumption)) HC0.out
                        have HR706 := Aside0.mk (Kd.C_of_reads (h1 := fun _ => rfl) (hA54 _ (Kd.reads_of_C HR0.out)))
                        have HC706 := Aside0.mk hC54
                        clear hA54 hC54 hi054 hsz54
                        obtain ⟨i055, hi055, _, hsz55, _⟩ := info_parts info3
                        obtain ⟨A55, hcut55, hA55, hC55⟩ := print_mid_of (P := Try.prog) (Value.int .i64) 0 22 3 .i64 .i64 Try.underlying22 hi055 hsz55 A1 c1 l1 t697 (wrap64 (t697 + t698)) (of_decide_eq_true (by first | (with_reducible assumption) | assumption)) (by first | omega | exact of_decide_eq_true (by first | (with_reducible assumption) | assumption)) (of_decide_eq_true (by first | (with_reducible assumption) | assumption)) HC1.out
                        have HR707 := Aside0.mk (Kd.C_of_reads (h1 := fun _ => rfl) (hA55 _ (Kd.reads_of_C HR1.out)))
                        have HC707 := Aside0.mk hC55
                        clear hA55 hC55 hi055 hsz55
                        refine start_ (n := 61) (S := fun w' => w'.cell? ⟨gb701, 0, none⟩ = some (.int .i64 t696) ∧ w'.cell? ⟨gb701, 1, none⟩ = some (.int .i64 t697) ∧ w'.cell? ⟨gb701, 2, none⟩ = some (.int .i64 t698) ∧ w'.cell? ⟨gb701, 3, none⟩ = some (.int .i64 t699)) (ds := []) #[false, false, false, false, false, false, false, false, false, false, false, false, false, false, false, false, false, false, false, false, false, false, false, false, false, false, false, false, false, false, false, false, false, false, false, false, false, false, false, false, false, false, false, false, false, false, false, false, false, false, false, false, false, false, false, false, false, false, false, false, false] (by kernel_rfl) rfl rfl ⟨(blk_cell BK701.out 0).trans rfl, (blk_cell BK701.out 1).trans rfl, (blk_cell BK701.out 2).trans rfl, (blk_cell BK701.out 3).trans rfl⟩ (fun hHeld => ?_); refine with_tabW redlinelaw08_HistogramRun.tab24 redlinelaw08_HistogramRun.bits24 (fun HT_ HW_ => ?_)
                        generalize wr.drew = w53 at BK701 HB HR706 HR707 hHeld ⊢
                        refine pw_ 0 90 redlinelaw08_HistogramRun.aa_0 HT_.out ?_ (hc := redlinelaw08_HistogramRun.ck_23)
                        refine take_ (i := 1) (N := some 91) (v := ?_) (a' := ?_) redlinelaw08_HistogramRun.aa_2 rfl rfl (take_ofW HT_.out HW_.out (by kernel_rfl)) (fun _ _ _ h => h) (Or.inl ⟨by rfl, ?_⟩) hHeld ?_ ?_
                        rotate_left
                        ·rintro w' ⟨s0, s1, s2, s3⟩
                         go_simp
                         with_reducible rfl
                        rotate_left
                        ·simp only [Act.put, List.setIfInBounds_toArray, List.set_cons_zero, List.set_cons_succ, i64_w, i32_w]
                         rfl
                        refine pw_ 2 92 redlinelaw08_HistogramRun.aa_3 HT_.out ?_ (hc := redlinelaw08_HistogramRun.ck_24)
                        refine pw_ 3 93 redlinelaw08_HistogramRun.aa_4 HT_.out ?_ (hc := redlinelaw08_HistogramRun.ck_25)
                        refine pw_ 4 94 redlinelaw08_HistogramRun.aa_5 HT_.out ?_ (hc := redlinelaw08_HistogramRun.ck_26)
                        refine take_ (i := 5) (N := some 95) (v := ?_) (a' := ?_) redlinelaw08_HistogramRun.aa_6 rfl rfl (take_ofW HT_.out HW_.out (by kernel_rfl)) (fun _ _ _ h => h) (Or.inl ⟨by rfl, ?_⟩) hHeld ?_ ?_
                        rotate_left
                        ·rintro w' ⟨s0, s1, s2, s3⟩
                         go_simp
                         with_reducible rfl
                        rotate_left
                        ·simp only [Act.put, List.setIfInBounds_toArray, List.set_cons_zero, List.set_cons_succ, i64_w, i32_w]
                         rfl
                        refine pw_ 6 96 redlinelaw08_HistogramRun.aa_7 HT_.out ?_ (hc := redlinelaw08_HistogramRun.ck_28)
                        refine pw_ 7 97 redlinelaw08_HistogramRun.aa_8 HT_.out ?_ (hc := redlinelaw08_HistogramRun.ck_29)
                        refine pw_ 8 98 redlinelaw08_HistogramRun.aa_9 HT_.out ?_ (hc := redlinelaw08_HistogramRun.ck_30)
                        refine pw_ 9 99 redlinelaw08_HistogramRun.aa_10 HT_.out ?_ (hc := redlinelaw08_HistogramRun.ck_31)
                        refine take_ (i := 10) (N := some 100) (v := ?_) (a' := ?_) redlinelaw08_HistogramRun.aa_11 rfl rfl (take_ofW HT_.out HW_.out (by kernel_rfl)) (fun _ _ _ h => h) (Or.inl ⟨by rfl, ?_⟩) hHeld ?_ ?_
                        rotate_left
                        ·rintro w' ⟨s0, s1, s2, s3⟩
                         go_simp
                         with_reducible rfl
                        rotate_left
                        ·simp only [Act.put, List.setIfInBounds_toArray, List.set_cons_zero, List.set_cons_succ, i64_w, i32_w]
                         rfl
                        refine pw_ 11 101 redlinelaw08_HistogramRun.aa_12 HT_.out ?_ (hc := redlinelaw08_HistogramRun.ck_33)
                        refine pw_ 12 102 redlinelaw08_HistogramRun.aa_13 HT_.out ?_ (hc := redlinelaw08_HistogramRun.ck_34)
                        refine pw_ 13 103 redlinelaw08_HistogramRun.aa_14 HT_.out ?_ (hc := redlinelaw08_HistogramRun.ck_35)
                        refine pw_ 14 104 redlinelaw08_HistogramRun.aa_15 HT_.out ?_ (hc := redlinelaw08_HistogramRun.ck_36)
                        refine pw_ 16 106 redlinelaw08_HistogramRun.aa_62 HT_.out ?_ (hc := redlinelaw08_HistogramRun.ck_83)
                        refine pw_ 17 107 redlinelaw08_HistogramRun.aa_63 HT_.out ?_ (hc := redlinelaw08_HistogramRun.ck_84)
                        refine pw_ 18 108 redlinelaw08_HistogramRun.aa_64 HT_.out ?_ (hc := redlinelaw08_HistogramRun.ck_85)
                        refine take_ (i := 15) (N := some 105) (v := ?_) (a' := ?_) redlinelaw08_HistogramRun.aa_19 rfl rfl (take_ofW HT_.out HW_.out (by kernel_rfl)) (fun _ _ _ h => h) (Or.inl ⟨by rfl, ?_⟩) hHeld ?_ ?_
                        rotate_left
                        ·rintro w' ⟨s0, s1, s2, s3⟩
                         go_simp
                         with_reducible rfl
                        rotate_left
                        ·simp only [Act.put, List.setIfInBounds_toArray, List.set_cons_zero, List.set_cons_succ, i64_w, i32_w]
                         rfl
                        refine take_ (i := 19) (N := some 109) (v := ?_) (a' := ?_) redlinelaw08_HistogramRun.aa_20 rfl rfl (take_ofW HT_.out HW_.out (by kernel_rfl)) (fun _ _ _ h => h) (Or.inl ⟨by rfl, ?_⟩) hHeld ?_ ?_
                        rotate_left
                        ·rintro w' ⟨s0, s1, s2, s3⟩
                         go_simp
                         with_reducible rfl
                        rotate_left
                        ·simp only [Act.put, List.setIfInBounds_toArray, List.set_cons_zero, List.set_cons_succ, i64_w, i32_w]
                         rfl
                        refine pw_ 20 110 redlinelaw08_HistogramRun.aa_21 HT_.out ?_ (hc := redlinelaw08_HistogramRun.ck_42)
                        refine pw_ 21 111 redlinelaw08_HistogramRun.aa_22 HT_.out ?_ (hc := redlinelaw08_HistogramRun.ck_43)
                        refine pw_ 22 112 redlinelaw08_HistogramRun.aa_23 HT_.out ?_ (hc := redlinelaw08_HistogramRun.ck_44)
                        refine pw_ 23 113 redlinelaw08_HistogramRun.aa_24 HT_.out ?_ (hc := redlinelaw08_HistogramRun.ck_45)
                        refine pw_ 24 114 redlinelaw08_HistogramRun.aa_25 HT_.out ?_ (hc := redlinelaw08_HistogramRun.ck_46)
                        refine pw_ 26 116 redlinelaw08_HistogramRun.aa_65 HT_.out ?_ (hc := redlinelaw08_HistogramRun.ck_86)
                        refine pw_ 27 117 redlinelaw08_HistogramRun.aa_66 HT_.out ?_ (hc := redlinelaw08_HistogramRun.ck_87)
                        refine pw_ 28 118 redlinelaw08_HistogramRun.aa_67 HT_.out ?_ (hc := redlinelaw08_HistogramRun.ck_88)
                        refine take_ (i := 25) (N := some 115) (v := ?_) (a' := ?_) redlinelaw08_HistogramRun.aa_29 rfl rfl (take_ofW HT_.out HW_.out (by kernel_rfl)) (fun _ _ _ h => h) (Or.inl ⟨by rfl, ?_⟩) hHeld ?_ ?_
                        rotate_left
                        ·rintro w' ⟨s0, s1, s2, s3⟩
                         go_simp
                         with_reducible rfl
                        rotate_left
                        ·simp only [Act.put, List.setIfInBounds_toArray, List.set_cons_zero, List.set_cons_succ, i64_w, i32_w]
                         rfl
                        refine take_ (i := 29) (N := some 119) (v := ?_) (a' := ?_) redlinelaw08_HistogramRun.aa_30 rfl rfl (take_ofW HT_.out HW_.out (by kernel_rfl)) (fun _ _ _ h => h) (Or.inl ⟨by rfl, ?_⟩) hHeld ?_ ?_
                        rotate_left
                        ·rintro w' ⟨s0, s1, s2, s3⟩
                         go_simp
                         with_reducible rfl
                        rotate_left
                        ·simp only [Act.put, List.setIfInBounds_toArray, List.set_cons_zero, List.set_cons_succ, i64_w, i32_w]
                         rfl
                        refine pw_ 30 120 redlinelaw08_HistogramRun.aa_31 HT_.out ?_ (hc := redlinelaw08_HistogramRun.ck_52)
                        refine pw_ 31 121 redlinelaw08_HistogramRun.aa_32 HT_.out ?_ (hc := redlinelaw08_HistogramRun.ck_53)
                        refine pw_ 32 122 redlinelaw08_HistogramRun.aa_33 HT_.out ?_ (hc := redlinelaw08_HistogramRun.ck_54)
                        refine pw_ 33 123 redlinelaw08_HistogramRun.aa_34 HT_.out ?_ (hc := redlinelaw08_HistogramRun.ck_55)
                        refine pw_ 34 124 redlinelaw08_HistogramRun.aa_35 HT_.out ?_ (hc := redlinelaw08_HistogramRun.ck_56)
                        refine pw_ 36 126 redlinelaw08_HistogramRun.aa_68 HT_.out ?_ (hc := redlinelaw08_HistogramRun.ck_89)
                        refine take_ (i := 35) (N := some 125) (v := ?_) (a' := ?_) redlinelaw08_HistogramRun.aa_37 rfl rfl (take_ofW HT_.out HW_.out (by kernel_rfl)) (fun _ _ _ h => h) (Or.inl ⟨by rfl, ?_⟩) hHeld ?_ ?_
                        rotate_left
                        ·rintro w' ⟨s0, s1, s2, s3⟩
                         go_simp
                         with_reducible rfl
                        rotate_left
                        ·simp only [Act.put, List.setIfInBounds_toArray, List.set_cons_zero, List.set_cons_succ, i64_w, i32_w]
                         rfl
                        refine pw_ 37 127 redlinelaw08_HistogramRun.aa_38 HT_.out ?_ (hc := redlinelaw08_HistogramRun.ck_59)
                        refine pw_ 38 128 redlinelaw08_HistogramRun.aa_39 HT_.out ?_ (hc := redlinelaw08_HistogramRun.ck_60)
                        refine pw_ 39 129 redlinelaw08_HistogramRun.aa_40 HT_.out ?_ (hc := redlinelaw08_HistogramRun.ck_61)
                        refine pw_ 40 130 redlinelaw08_HistogramRun.aa_41 HT_.out ?_ (hc := redlinelaw08_HistogramRun.ck_62)
                        refine pw_ 41 131 redlinelaw08_HistogramRun.aa_42 HT_.out ?_ (hc := redlinelaw08_HistogramRun.ck_63)
                        refine pw_ 43 133 redlinelaw08_HistogramRun.aa_69 HT_.out ?_ (hc := redlinelaw08_HistogramRun.ck_90)
                        refine pw_ 45 135 redlinelaw08_HistogramRun.aa_70 HT_.out ?_ (hc := redlinelaw08_HistogramRun.ck_91)
                        refine pw_ 49 139 redlinelaw08_HistogramRun.aa_71 HT_.out ?_ (hc := redlinelaw08_HistogramRun.ck_92)
                        refine pw_ 50 140 redlinelaw08_HistogramRun.aa_72 HT_.out ?_ (hc := redlinelaw08_HistogramRun.ck_93)
                        refine pw_ 52 142 redlinelaw08_HistogramRun.aa_73 HT_.out ?_ (hc := redlinelaw08_HistogramRun.ck_94)
                        refine pw_ 54 144 redlinelaw08_HistogramRun.aa_74 HT_.out ?_ (hc := redlinelaw08_HistogramRun.ck_95)
                        refine take_ (i := 42) (N := some 132) (v := ?_) (a' := ?_) redlinelaw08_HistogramRun.aa_75 rfl rfl (take_ofW HT_.out HW_.out (by kernel_rfl)) (fun _ _ _ h => h) (Or.inl ⟨by rfl, ?_⟩) hHeld ?_ ?_
                        rotate_left
                        ·rintro w' ⟨s0, s1, s2, s3⟩
                         go_simp
                         with_reducible rfl
                        rotate_left
                        ·simp only [Act.put, List.setIfInBounds_toArray, List.set_cons_zero, List.set_cons_succ, i64_w, i32_w]
                         rfl
                        refine take_ (i := 44) (N := some 134) (v := ?_) (a' := ?_) redlinelaw08_HistogramRun.aa_76 rfl rfl (take_ofW HT_.out HW_.out (by kernel_rfl)) (fun _ _ _ h => h) (Or.inl ⟨by rfl, ?_⟩) hHeld ?_ ?_
                        rotate_left
                        ·rintro w' ⟨s0, s1, s2, s3⟩
                         go_simp
                         with_reducible rfl
                        rotate_left
                        ·simp only [Act.put, List.setIfInBounds_toArray, List.set_cons_zero, List.set_cons_succ, i64_w, i32_w]
                         rfl
                        refine take_ (i := 46) (N := some 136) (v := ?_) (a' := ?_) redlinelaw08_HistogramRun.aa_77 rfl rfl (take_ofW HT_.out HW_.out (by kernel_rfl)) (fun _ _ _ h => h) (Or.inl ⟨by rfl, ?_⟩) hHeld ?_ ?_
                        rotate_left
                        ·rintro w' ⟨s0, s1, s2, s3⟩
                         go_simp
                         with_reducible rfl
                        rotate_left
                        ·simp only [Act.put, List.setIfInBounds_toArray, List.set_cons_zero, List.set_cons_succ, i64_w, i32_w]
                         rfl
                        refine pw_ 47 137 redlinelaw08_HistogramRun.aa_78 HT_.out ?_ (hc := redlinelaw08_HistogramRun.ck_96)
                        refine pw_ 48 138 redlinelaw08_HistogramRun.aa_79 HT_.out ?_ (hc := redlinelaw08_HistogramRun.ck_97)
                        refine take_ (i := 51) (N := some 141) (v := ?_) (a' := ?_) redlinelaw08_HistogramRun.aa_80 rfl rfl (take_ofW HT_.out HW_.out (by kernel_rfl)) (fun _ _ _ h => h) (Or.inl ⟨by rfl, ?_⟩) hHeld ?_ ?_
                        rotate_left
                        ·rintro w' ⟨s0, s1, s2, s3⟩
                         go_simp
                         with_reducible rfl
                        rotate_left
                        ·simp only [Act.put, List.setIfInBounds_toArray, List.set_cons_zero, List.set_cons_succ, i64_w, i32_w]
                         rfl
                        refine take_ (i := 53) (N := some 143) (v := ?_) (a' := ?_) redlinelaw08_HistogramRun.aa_55 rfl rfl (take_ofW HT_.out HW_.out (by kernel_rfl)) (fun _ _ _ h => h) (Or.inl ⟨by rfl, ?_⟩) hHeld ?_ ?_
                        rotate_left
                        ·rintro w' ⟨s0, s1, s2, s3⟩
                         go_simp
                         with_reducible rfl
                        rotate_left
                        ·simp only [Act.put, List.setIfInBounds_toArray, List.set_cons_zero, List.set_cons_succ, i64_w, i32_w]
                         rfl
                        refine take_ (i := 55) (N := some 145) (v := ?_) (a' := ?_) redlinelaw08_HistogramRun.aa_56 rfl rfl (take_ofW HT_.out HW_.out (by kernel_rfl)) (fun _ _ _ h => h) (Or.inl ⟨by rfl, ?_⟩) hHeld ?_ ?_
                        rotate_left
                        ·rintro w' ⟨s0, s1, s2, s3⟩
                         go_simp
                         with_reducible rfl
                        rotate_left
                        ·simp only [Act.put, List.setIfInBounds_toArray, List.set_cons_zero, List.set_cons_succ, i64_w, i32_w]
                         rfl
                        refine pw_ 56 146 redlinelaw08_HistogramRun.aa_57 HT_.out ?_ (hc := redlinelaw08_HistogramRun.ck_78)
                        refine pw_ 57 147 redlinelaw08_HistogramRun.aa_58 HT_.out ?_ (hc := redlinelaw08_HistogramRun.ck_79)
                        refine one_ (i := 58) (N := some 148) redlinelaw08_HistogramRun.aa_59 rfl rfl (one_of HT_.out (by kernel_rfl)) (by decide) (fun K hK => ?_)
                        refine goes_ Try.func15 (by kernel_rfl) rfl #[.slice A54 ((l0.take ((wrap64 (t696 + t698)) : Int).toNat).drop (t696 : Int).toNat).length (c0 - t696.toNat), .slice A55 ((l1.take ((wrap64 (t697 + t698)) : Int).toNat).drop (t697 : Int).toNat).length (c1 - t697.toNat)] (by rfl) rfl rfl (by (try simp only [List.map_toArray, List.map_cons, List.map_nil]); first | done | (rw [show ((l0.take ((wrap64 (t696 + t698)) : Int).toNat).drop (t696 : Int).toNat).length = ((wrap64 (t696 + t698)).toNat - t696.toNat) from (by rw [List.length_drop, List.length_take]; have h_ : ((wrap64 (t696 + t698)) : Int) ≤ (l0.length : Int) := of_decide_eq_true (by first | (with_reducible assumption) | assumption); omega), show ((l1.take ((wrap64 (t697 + t698)) : Int).toNat).drop (t697 : Int).toNat).length = ((wrap64 (t697 + t698)).toNat - t697.toNat) from (by rw [List.length_drop, List.length_take]; have h_ : ((wrap64 (t697 + t698)) : Int) ≤ (l1.length : Int) := of_decide_eq_true (by first | (with_reducible assumption) | assumption); omega)] <;> rfl) | (rw [show ((l0.take ((wrap64 (t696 + t698)) : Int).toNat).drop (t696 : Int).toNat).length = ((wrap64 (t696 + t698)).toNat - t696.toNat) from (by rw [List.length_drop, List.length_take]; have h_ : ((wrap64 (t696 + t698)) : Int) ≤ (l0.length : Int) := of_decide_eq_true (by first | (with_reducible assumption) | assumption); omega)] <;> rfl) | (rw [show ((l1.take ((wrap64 (t697 + t698)) : Int).toNat).drop (t697 : Int).toNat).length = ((wrap64 (t697 + t698)).toNat - t697.toNat) from (by rw [List.length_drop, List.length_take]; have h_ : ((wrap64 (t697 + t698)) : Int) ≤ (l1.length : Int) := of_decide_eq_true (by first | (with_reducible assumption) | assumption); omega)] <;> rfl) | rfl | (simp only [List.length_drop, List.length_take]; rfl)) ?_
                        with_reducible refine (redlineref04_SameInts.calls k2 _ _ ((l0.take ((wrap64 (t696 + t698)) : Int).toNat).drop (t696 : Int).toNat) _ _ ((l1.take ((wrap64 (t697 + t698)) : Int).toNat).drop (t697 : Int).toNat) t708 _ ?side1 ?side2 ?side3 ?side4 A52.out).mono ?_
                        (case side1 => repeat (first | exact (Kd.C_below HR706.out HB.out) | (with_reducible refine Kd.C_alloc ?_ _) | (with_reducible refine Kd.C_drewN ?_ _) | (with_reducible refine Kd.C_drew ?_)))
                        (case side2 => exact HC706.out)
                        (case side3 => repeat (first | exact (Kd.C_below HR707.out HB.out) | (with_reducible refine Kd.C_alloc ?_ _) | (with_reducible refine Kd.C_drewN ?_ _) | (with_reducible refine Kd.C_drew ?_)))
                        (case side4 => exact HC707.out)
                        rintro e w' ⟨rfl, ⟨nd, rfl⟩⟩
                        refine ⟨_, rfl, ?_⟩
                        refine hK.out _ _ ⟨(blk_cell BK701.out 0).trans rfl, (blk_cell BK701.out 1).trans rfl, (blk_cell BK701.out 2).trans rfl, (blk_cell BK701.out 3).trans rfl⟩ (fun hHeld => ?_)
                        clear hK K
                        refine norm_ (a' := ?_) ?_ ?_
                        rotate_left
                        ·show Act.put _ (some 148) _ = _
                         simp only [Act.put, List.setIfInBounds_toArray, List.set_cons_zero, List.set_cons_succ, i64_w, i32_w]
                         rfl
                        refine pw_ 59 149 redlinelaw08_HistogramRun.aa_60 HT_.out ?_ (hc := redlinelaw08_HistogramRun.ck_81)
                        refine pw_ 60 150 redlinelaw08_HistogramRun.aa_61 HT_.out ?_ (hc := redlinelaw08_HistogramRun.ck_82)
                        refine done_ (done_of HT_.out (by kernel_rfl)) ?_
                        try go_wp2
                        go_meet
                        case rel => exact ⟨_, (!t708), (by first | rfl | (simp; done) | (simp [*]; done)), H', ⟨by have := HJ4.out; have := HK2.out; first | omega | exact Nat.le_refl _⟩, ⟨by (with_reducible repeat (first | refine blk_drewN ?_ _ | refine blk_drew ?_ | refine blk_alloc ?_ _)); exact BK701.out⟩, ⟨by repeat (first | (with_reducible first | exact HB.out | apply below_alloc | apply pw_below_drewN | apply below_drew1 | refine below_set ?_ GE701.out) | exact HB.out)⟩⟩
                      ·rw [if_neg c51] at H
                       exact absurd H (by simp)
                     ·rw [if_neg c50] at H
                      exact absurd H (by simp)
                    ·rw [if_neg c49] at H
                     exact absurd H (by simp)
                   ·rw [if_neg c48] at H
                    exact absurd H (by simp)
                  ·rw [if_neg c47] at H
                   exact absurd H (by simp)
                 ·rw [if_neg c46] at H
                  exact absurd H (by simp)
                ·as_aux_lemma =>
                  rw [if_neg c45] at H
                  have c45b0 : (t699 == x7_2) = false := beq_eq_false_iff_ne.mpr c45
                  have c45b1 : (t699 != x7_2) = true := bne_iff_ne.mpr c45
                  have H' := Aside0.mk H
                  clear H
                  try go_wp2
                  have n0_ := Aside0.mk (blk_drew BK701.out)
                  have n1_ := Aside0.mk (below_drew1 HB.out)
                  clear BK701
                  clear HB
                  have BK701 := n0_
                  have HB := n1_
                  clear n0_ n1_
                  refine start_ (n := 61) (S := fun w' => w'.cell? ⟨gb701, 0, none⟩ = some (.int .i64 t696) ∧ w'.cell? ⟨gb701, 1, none⟩ = some (.int .i64 t697) ∧ w'.cell? ⟨gb701, 2, none⟩ = some (.int .i64 t698) ∧ w'.cell? ⟨gb701, 3, none⟩ = some (.int .i64 t699)) (ds := []) #[false, false, false, false, false, false, false, false, false, false, false, false, false, false, false, false, false, false, false, false, false, false, false, false, false, false, false, false, false, false, false, false, false, false, false, false, false, false, false, false, false, false, false, false, false, false, false, false, false, false, false, false, false, false, false, false, false, false, false, false, false] (by kernel_rfl) rfl rfl ⟨(blk_cell BK701.out 0).trans rfl, (blk_cell BK701.out 1).trans rfl, (blk_cell BK701.out 2).trans rfl, (blk_cell BK701.out 3).trans rfl⟩ (fun hHeld => ?_); refine with_tabW redlinelaw08_HistogramRun.tab24 redlinelaw08_HistogramRun.bits24 (fun HT_ HW_ => ?_)
                  generalize wr.drew = w56 at BK701 HB hHeld ⊢
                  refine pw_ 0 90 redlinelaw08_HistogramRun.aa_0 HT_.out ?_ (hc := redlinelaw08_HistogramRun.ck_23)
                  refine take_ (i := 1) (N := some 91) (v := ?_) (a' := ?_) redlinelaw08_HistogramRun.aa_2 rfl rfl (take_ofW HT_.out HW_.out (by kernel_rfl)) (fun _ _ _ h => h) (Or.inl ⟨by rfl, ?_⟩) hHeld ?_ ?_
                  rotate_left
                  ·rintro w' ⟨s0, s1, s2, s3⟩
                   go_simp
                   with_reducible rfl
                  rotate_left
                  ·simp only [Act.put, List.setIfInBounds_toArray, List.set_cons_zero, List.set_cons_succ, i64_w, i32_w]
                   rfl
                  refine pw_ 2 92 redlinelaw08_HistogramRun.aa_3 HT_.out ?_ (hc := redlinelaw08_HistogramRun.ck_24)
                  refine pw_ 3 93 redlinelaw08_HistogramRun.aa_4 HT_.out ?_ (hc := redlinelaw08_HistogramRun.ck_25)
                  refine pw_ 4 94 redlinelaw08_HistogramRun.aa_5 HT_.out ?_ (hc := redlinelaw08_HistogramRun.ck_26)
                  refine take_ (i := 5) (N := some 95) (v := ?_) (a' := ?_) redlinelaw08_HistogramRun.aa_6 rfl rfl (take_ofW HT_.out HW_.out (by kernel_rfl)) (fun _ _ _ h => h) (Or.inl ⟨by rfl, ?_⟩) hHeld ?_ ?_
                  rotate_left
                  ·rintro w' ⟨s0, s1, s2, s3⟩
                   go_simp
                   with_reducible rfl
                  rotate_left
                  ·simp only [Act.put, List.setIfInBounds_toArray, List.set_cons_zero, List.set_cons_succ, i64_w, i32_w]
                   rfl
                  refine pw_ 6 96 redlinelaw08_HistogramRun.aa_7 HT_.out ?_ (hc := redlinelaw08_HistogramRun.ck_28)
                  refine pw_ 7 97 redlinelaw08_HistogramRun.aa_8 HT_.out ?_ (hc := redlinelaw08_HistogramRun.ck_29)
                  refine pw_ 8 98 redlinelaw08_HistogramRun.aa_9 HT_.out ?_ (hc := redlinelaw08_HistogramRun.ck_30)
                  refine pw_ 9 99 redlinelaw08_HistogramRun.aa_10 HT_.out ?_ (hc := redlinelaw08_HistogramRun.ck_31)
                  refine take_ (i := 10) (N := some 100) (v := ?_) (a' := ?_) redlinelaw08_HistogramRun.aa_11 rfl rfl (take_ofW HT_.out HW_.out (by kernel_rfl)) (fun _ _ _ h => h) (Or.inl ⟨by rfl, ?_⟩) hHeld ?_ ?_
                  rotate_left
                  ·rintro w' ⟨s0, s1, s2, s3⟩
                   go_simp
                   with_reducible rfl
                  rotate_left
                  ·simp only [Act.put, List.setIfInBounds_toArray, List.set_cons_zero, List.set_cons_succ, i64_w, i32_w]
                   rfl
                  refine pw_ 11 101 redlinelaw08_HistogramRun.aa_12 HT_.out ?_ (hc := redlinelaw08_HistogramRun.ck_33)
                  refine pw_ 12 102 redlinelaw08_HistogramRun.aa_13 HT_.out ?_ (hc := redlinelaw08_HistogramRun.ck_34)
                  refine pw_ 13 103 redlinelaw08_HistogramRun.aa_14 HT_.out ?_ (hc := redlinelaw08_HistogramRun.ck_35)
                  refine pw_ 14 104 redlinelaw08_HistogramRun.aa_15 HT_.out ?_ (hc := redlinelaw08_HistogramRun.ck_36)
                  refine pw_ 16 106 redlinelaw08_HistogramRun.aa_62 HT_.out ?_ (hc := redlinelaw08_HistogramRun.ck_83)
                  refine pw_ 17 107 redlinelaw08_HistogramRun.aa_63 HT_.out ?_ (hc := redlinelaw08_HistogramRun.ck_84)
                  refine pw_ 18 108 redlinelaw08_HistogramRun.aa_64 HT_.out ?_ (hc := redlinelaw08_HistogramRun.ck_85)
                  refine take_ (i := 15) (N := some 105) (v := ?_) (a' := ?_) redlinelaw08_HistogramRun.aa_19 rfl rfl (take_ofW HT_.out HW_.out (by kernel_rfl)) (fun _ _ _ h => h) (Or.inl ⟨by rfl, ?_⟩) hHeld ?_ ?_
                  rotate_left
                  ·rintro w' ⟨s0, s1, s2, s3⟩
                   go_simp
                   with_reducible rfl
                  rotate_left
                  ·simp only [Act.put, List.setIfInBounds_toArray, List.set_cons_zero, List.set_cons_succ, i64_w, i32_w]
                   rfl
                  refine take_ (i := 19) (N := some 109) (v := ?_) (a' := ?_) redlinelaw08_HistogramRun.aa_20 rfl rfl (take_ofW HT_.out HW_.out (by kernel_rfl)) (fun _ _ _ h => h) (Or.inl ⟨by rfl, ?_⟩) hHeld ?_ ?_
                  rotate_left
                  ·rintro w' ⟨s0, s1, s2, s3⟩
                   go_simp
                   with_reducible rfl
                  rotate_left
                  ·simp only [Act.put, List.setIfInBounds_toArray, List.set_cons_zero, List.set_cons_succ, i64_w, i32_w]
                   rfl
                  refine pw_ 20 110 redlinelaw08_HistogramRun.aa_21 HT_.out ?_ (hc := redlinelaw08_HistogramRun.ck_42)
                  refine pw_ 21 111 redlinelaw08_HistogramRun.aa_22 HT_.out ?_ (hc := redlinelaw08_HistogramRun.ck_43)
                  refine pw_ 22 112 redlinelaw08_HistogramRun.aa_23 HT_.out ?_ (hc := redlinelaw08_HistogramRun.ck_44)
                  refine pw_ 23 113 redlinelaw08_HistogramRun.aa_24 HT_.out ?_ (hc := redlinelaw08_HistogramRun.ck_45)
                  refine pw_ 24 114 redlinelaw08_HistogramRun.aa_25 HT_.out ?_ (hc := redlinelaw08_HistogramRun.ck_46)
                  refine pw_ 26 116 redlinelaw08_HistogramRun.aa_65 HT_.out ?_ (hc := redlinelaw08_HistogramRun.ck_86)
                  refine pw_ 27 117 redlinelaw08_HistogramRun.aa_66 HT_.out ?_ (hc := redlinelaw08_HistogramRun.ck_87)
                  refine pw_ 28 118 redlinelaw08_HistogramRun.aa_67 HT_.out ?_ (hc := redlinelaw08_HistogramRun.ck_88)
                  refine take_ (i := 25) (N := some 115) (v := ?_) (a' := ?_) redlinelaw08_HistogramRun.aa_29 rfl rfl (take_ofW HT_.out HW_.out (by kernel_rfl)) (fun _ _ _ h => h) (Or.inl ⟨by rfl, ?_⟩) hHeld ?_ ?_
                  rotate_left
                  ·rintro w' ⟨s0, s1, s2, s3⟩
                   go_simp
                   with_reducible rfl
                  rotate_left
                  ·simp only [Act.put, List.setIfInBounds_toArray, List.set_cons_zero, List.set_cons_succ, i64_w, i32_w]
                   rfl
                  refine take_ (i := 29) (N := some 119) (v := ?_) (a' := ?_) redlinelaw08_HistogramRun.aa_30 rfl rfl (take_ofW HT_.out HW_.out (by kernel_rfl)) (fun _ _ _ h => h) (Or.inl ⟨by rfl, ?_⟩) hHeld ?_ ?_
                  rotate_left
                  ·rintro w' ⟨s0, s1, s2, s3⟩
                   go_simp
                   with_reducible rfl
                  rotate_left
                  ·simp only [Act.put, List.setIfInBounds_toArray, List.set_cons_zero, List.set_cons_succ, i64_w, i32_w]
                   rfl
                  refine pw_ 30 120 redlinelaw08_HistogramRun.aa_31 HT_.out ?_ (hc := redlinelaw08_HistogramRun.ck_52)
                  refine pw_ 31 121 redlinelaw08_HistogramRun.aa_32 HT_.out ?_ (hc := redlinelaw08_HistogramRun.ck_53)
                  refine pw_ 32 122 redlinelaw08_HistogramRun.aa_33 HT_.out ?_ (hc := redlinelaw08_HistogramRun.ck_54)
                  refine pw_ 33 123 redlinelaw08_HistogramRun.aa_34 HT_.out ?_ (hc := redlinelaw08_HistogramRun.ck_55)
                  refine pw_ 34 124 redlinelaw08_HistogramRun.aa_35 HT_.out ?_ (hc := redlinelaw08_HistogramRun.ck_56)
                  refine pw_ 36 126 redlinelaw08_HistogramRun.aa_68 HT_.out ?_ (hc := redlinelaw08_HistogramRun.ck_89)
                  refine take_ (i := 35) (N := some 125) (v := ?_) (a' := ?_) redlinelaw08_HistogramRun.aa_37 rfl rfl (take_ofW HT_.out HW_.out (by kernel_rfl)) (fun _ _ _ h => h) (Or.inl ⟨by rfl, ?_⟩) hHeld ?_ ?_
                  rotate_left
                  ·rintro w' ⟨s0, s1, s2, s3⟩
                   go_simp
                   with_reducible rfl
                  rotate_left
                  ·simp only [Act.put, List.setIfInBounds_toArray, List.set_cons_zero, List.set_cons_succ, i64_w, i32_w]
                   rfl
                  refine pw_ 37 127 redlinelaw08_HistogramRun.aa_38 HT_.out ?_ (hc := redlinelaw08_HistogramRun.ck_59)
                  refine pw_ 38 128 redlinelaw08_HistogramRun.aa_39 HT_.out ?_ (hc := redlinelaw08_HistogramRun.ck_60)
                  refine pw_ 39 129 redlinelaw08_HistogramRun.aa_40 HT_.out ?_ (hc := redlinelaw08_HistogramRun.ck_61)
                  refine pu_ 40 130 redlinelaw08_HistogramRun.aa_41 HT_.out ?_ (hc := redlinelaw08_HistogramRun.ck_62)
                  refine pu_ 41 131 redlinelaw08_HistogramRun.aa_42 HT_.out ?_ (hc := redlinelaw08_HistogramRun.ck_63)
                  refine pu_ 42 132 redlinelaw08_HistogramRun.aa_43 HT_.out ?_ (hc := redlinelaw08_HistogramRun.ck_64)
                  refine pu_ 43 133 redlinelaw08_HistogramRun.aa_44 HT_.out ?_ (hc := redlinelaw08_HistogramRun.ck_65)
                  refine pu_ 44 134 redlinelaw08_HistogramRun.aa_45 HT_.out ?_ (hc := redlinelaw08_HistogramRun.ck_66)
                  refine pu_ 45 135 redlinelaw08_HistogramRun.aa_46 HT_.out ?_ (hc := redlinelaw08_HistogramRun.ck_67)
                  refine pu_ 46 136 redlinelaw08_HistogramRun.aa_47 HT_.out ?_ (hc := redlinelaw08_HistogramRun.ck_68)
                  refine pu_ 47 137 redlinelaw08_HistogramRun.aa_48 HT_.out ?_ (hc := redlinelaw08_HistogramRun.ck_69)
                  refine pu_ 48 138 redlinelaw08_HistogramRun.aa_49 HT_.out ?_ (hc := redlinelaw08_HistogramRun.ck_70)
                  refine pu_ 49 139 redlinelaw08_HistogramRun.aa_50 HT_.out ?_ (hc := redlinelaw08_HistogramRun.ck_71)
                  refine pu_ 50 140 redlinelaw08_HistogramRun.aa_51 HT_.out ?_ (hc := redlinelaw08_HistogramRun.ck_72)
                  refine pu_ 51 141 redlinelaw08_HistogramRun.aa_52 HT_.out ?_ (hc := redlinelaw08_HistogramRun.ck_73)
                  refine pu_ 52 142 redlinelaw08_HistogramRun.aa_53 HT_.out ?_ (hc := redlinelaw08_HistogramRun.ck_74)
                  refine pu_ 53 143 redlinelaw08_HistogramRun.aa_54 HT_.out ?_ (hc := redlinelaw08_HistogramRun.ck_75)
                  refine pu_ 54 144 redlinelaw08_HistogramRun.aa_55 HT_.out ?_ (hc := redlinelaw08_HistogramRun.ck_76)
                  refine pu_ 55 145 redlinelaw08_HistogramRun.aa_56 HT_.out ?_ (hc := redlinelaw08_HistogramRun.ck_77)
                  refine pu_ 56 146 redlinelaw08_HistogramRun.aa_57 HT_.out ?_ (hc := redlinelaw08_HistogramRun.ck_78)
                  refine pu_ 57 147 redlinelaw08_HistogramRun.aa_58 HT_.out ?_ (hc := redlinelaw08_HistogramRun.ck_79)
                  refine pu_ 58 148 redlinelaw08_HistogramRun.aa_59 HT_.out ?_ (hc := redlinelaw08_HistogramRun.ck_80)
                  refine pu_ 59 149 redlinelaw08_HistogramRun.aa_60 HT_.out ?_ (hc := redlinelaw08_HistogramRun.ck_81)
                  refine pw_ 60 150 redlinelaw08_HistogramRun.aa_61 HT_.out ?_ (hc := redlinelaw08_HistogramRun.ck_82)
                  refine done_ (done_of HT_.out (by kernel_rfl)) ?_
                  try go_wp2
                  go_meet
                  case rel => exact ⟨_, (true), (by first | rfl | (simp; done) | (simp [*]; done)), H', ⟨by have := HJ4.out; have := HK2.out; first | omega | exact Nat.le_refl _⟩, ⟨by (with_reducible repeat (first | refine blk_drewN ?_ _ | refine blk_drew ?_ | refine blk_alloc ?_ _)); exact BK701.out⟩, ⟨by repeat (first | (with_reducible first | exact HB.out | apply below_alloc | apply pw_below_drewN | apply below_drew1 | refine below_set ?_ GE701.out) | exact HB.out)⟩⟩
          case rest =>
           clear HC34
           try clear c1
           try clear p2
           try clear c4
           try clear c5
           try clear p6
           try clear c15
           try clear c45
           try clear c45b0
           try clear c45b1
           try clear c46
           try clear c47
           try clear c48
           try clear c49
           try clear c50
           try clear c51
           obtain ⟨kq, x150_33, rfl, HA, HJ33, BK701, HB⟩ := hcut
           cases kq with
           | zero => exact absurd HA.out (by simp [redlinelaw08_HistogramRun.j7])
           | succ kj33 =>
            have H := HA.out
            clear HA
            simp only [redlinelaw08_HistogramRun.j7] at H
            by_cases c57 : x150_33 = true
            ·subst c57
             have H1 : (some false) = some r := by rw [if_pos rfl] at H; exact H
             clear H
             have H := H1
             clear H1
             obtain rfl := Option.some.inj H
             go_wp2
             go_ret
             exact ⟨by first | rfl | (simp [errW_none, errW_some] <;> rfl) | (simp [*, errW_none, errW_some] <;> rfl), by repeat (first | (with_reducible first | exact HB.out | apply below_alloc | apply pw_below_drewN | apply below_drew1 | refine below_set ?_ GE701.out) | exact HB.out)⟩
            ·replace c57 := Bool.eq_false_iff.mpr c57
             subst c57
             have H1 : (if t696 > 0 then (if t697 > 0 then (if 0 ≤ (wrap64 (t696 - 1)) then (if (wrap64 (t696 - 1)) < (l0.length : Int) then (if 0 ≤ (wrap64 (t697 - 1)) then (if (wrap64 (t697 - 1)) < (l1.length : Int) then (redlinelaw08_HistogramRun.j8 kj33 l0 l1 ((rd l0 (wrap64 (t696 - 1))) == (rd l1 (wrap64 (t697 - 1)))) t696 t697 t698 t699) else (none)) else (none)) else (none)) else (none)) else (redlinelaw08_HistogramRun.j8 kj33 l0 l1 false t696 t697 t698 t699)) else (redlinelaw08_HistogramRun.j8 kj33 l0 l1 false t696 t697 t698 t699)) = some r := by rw [if_neg (show ¬ (false = true) by decide)] at H; exact H
             clear H
             have H := H1
             clear H1
             have HC58 := Aside0.mk H
             clear H
             go_upto_region 26 with (fail)
             go_cut [13] (fun v13 wc => ∃ (kq : Nat) (x13_57 : Bool), v13 = .bool x13_57 ∧ Aside0 (redlinelaw08_HistogramRun.j8 kq l0 l1 x13_57 t696 t697 t698 t699 = some r) ∧ Aside0 (kq ≤ kj33) ∧ Aside0 (wc.heap[gb701]? = some (.cells #[.int .i64 t696, .int .i64 t697, .int .i64 t698, .int .i64 t699] 27 (0, 0))) ∧ Aside0 (Below w.heap.size w wc))
             case first =>
              have H := HC58.out
              clear HC58
              by_cases c59 : t696 > 0
              ·as_aux_lemma =>
                rw [if_pos c59] at H
                have c59b0 : decide (0 < t696) = true := decide_eq_true c59
                clear c59
                (first | rw [c59b0] | rw [c59b1] | (simp only [i64_w, i32_w]; rw [c59b0]) | skip)
                by_cases c60 : t697 > 0
                ·rw [if_pos c60] at H
                 have c60b0 : decide (0 < t697) = true := decide_eq_true c60
                 clear c60
                 obtain ⟨ji61, hji61⟩ : ∃ j_ : Int, (wrap64 (t696 - 1)) = j_ := ⟨_, rfl⟩
                 replace H : (if 0 ≤ (ji61) then (if (ji61) < (l0.length : Int) then (if 0 ≤ (wrap64 (t697 - 1)) then (if (wrap64 (t697 - 1)) < (l1.length : Int) then (redlinelaw08_HistogramRun.j8 kj33 l0 l1 ((rd l0 (ji61)) == (rd l1 (wrap64 (t697 - 1)))) t696 t697 t698 t699) else (none)) else (none)) else (none)) else (none)) = some r := by first | (rw [hji61] at H; exact H) | (simp only [hji61] at H ⊢; exact H)
                 have hji61w : (IntKind.i64.wrap (t696 - 1)) = ji61 := (i64_w _).trans hji61
                 by_cases c62 : 0 ≤ (ji61)
                 ·rw [if_pos c62] at H
                  have c62b0 : decide (0 ≤ (ji61)) = true := decide_eq_true c62
                  clear c62
                  by_cases c63 : (ji61) < (l0.length : Int)
                  ·rw [if_pos c63] at H
                   have c63b0 : decide ((ji61) < (l0.length : Int)) = true := decide_eq_true c63
                   clear c63
                   obtain ⟨ji64, hji64⟩ : ∃ j_ : Int, (wrap64 (t697 - 1)) = j_ := ⟨_, rfl⟩
                   replace H : (if 0 ≤ (ji64) then (if (ji64) < (l1.length : Int) then (redlinelaw08_HistogramRun.j8 kj33 l0 l1 ((rd l0 (ji61)) == (rd l1 (ji64))) t696 t697 t698 t699) else (none)) else (none)) = some r := by first | (rw [hji64] at H; exact H) | (simp only [hji64] at H ⊢; exact H)
                   have hji64w : (IntKind.i64.wrap (t697 - 1)) = ji64 := (i64_w _).trans hji64
                   by_cases c65 : 0 ≤ (ji64)
                   ·rw [if_pos c65] at H
                    have c65b0 : decide (0 ≤ (ji64)) = true := decide_eq_true c65
                    clear c65
                    by_cases c66 : (ji64) < (l1.length : Int)
                    ·rw [if_pos c66] at H
                     have c66b0 : decide ((ji64) < (l1.length : Int)) = true := decide_eq_true c66
                     clear c66
                     have H' := Aside0.mk H
                     clear H
                     try go_wp2
                     have n0_ := Aside0.mk (blk_drew BK701.out)
                     have n1_ := Aside0.mk (below_drew1 HB.out)
                     clear BK701
                     clear HB
                     have BK701 := n0_
                     have HB := n1_
                     clear n0_ n1_
                     have p709 : 0 ≤ ((ji61) : Int) := of_decide_eq_true (by first | (with_reducible assumption) | assumption)
                     have q709 : (ji61) < (l0.length : Int) := of_decide_eq_true (by first | (with_reducible assumption) | assumption)
                     obtain ⟨ad709, e709, hx709_0⟩ := Kd.at_int HR0.out (ji61) p709 q709
                     have hw709_0 := hx709_0
                     cases e709
                     replace hx709_0 := (HB.out.cell (World.block_lt_of_cell? w _ hx709_0)).trans hx709_0
                     replace p709 := eq_true p709
                     replace q709 := eq_true q709
                     have p710 : 0 ≤ ((ji64) : Int) := of_decide_eq_true (by first | (with_reducible assumption) | assumption)
                     have q710 : (ji64) < (l1.length : Int) := of_decide_eq_true (by first | (with_reducible assumption) | assumption)
                     obtain ⟨ad710, e710, hx710_0⟩ := Kd.at_int HR1.out (ji64) p710 q710
                     have hw710_0 := hx710_0
                     cases e710
                     replace hx710_0 := (HB.out.cell (World.block_lt_of_cell? w _ hx710_0)).trans hx710_0
                     replace p710 := eq_true p710
                     replace q710 := eq_true q710
                     refine start_ (n := 24) (S := fun w' => w'.cell? ⟨gb701, 0, none⟩ = some (.int .i64 t696) ∧ w'.cell? ⟨gb701, 1, none⟩ = some (.int .i64 t697) ∧ w'.cell? ⟨gb701, 2, none⟩ = some (.int .i64 t698) ∧ w'.cell? ⟨gb701, 3, none⟩ = some (.int .i64 t699) ∧ w'.cell? (ad709.add ((ji61)).toNat) = some (.int .i64 (rd l0 (ji61))) ∧ w'.cell? (ad710.add ((ji64)).toNat) = some (.int .i64 (rd l1 (ji64)))) (ds := []) #[false, false, false, false, false, false, false, false, false, false, false, false, false, false, false, false, false, false, false, false, false, false, false, false] (by kernel_rfl) rfl rfl ⟨(blk_cell BK701.out 0).trans rfl, (blk_cell BK701.out 1).trans rfl, (blk_cell BK701.out 2).trans rfl, (blk_cell BK701.out 3).trans rfl, ((HB.out.cell (World.block_lt_of_cell? w _ hw709_0)).trans hw709_0), ((HB.out.cell (World.block_lt_of_cell? w _ hw710_0)).trans hw710_0)⟩ (fun hHeld => ?_); refine with_tabW redlinelaw08_HistogramRun.tab26 redlinelaw08_HistogramRun.bits26 (fun HT_ HW_ => ?_)
                     generalize wc.drew = w67 at BK701 HB hx709_0 hx710_0 hHeld ⊢
                     refine pw_ 0 151 redlinelaw08_HistogramRun.aa_81 HT_.out ?_ (hc := redlinelaw08_HistogramRun.ck_98)
                     refine take_ (i := 1) (N := some 152) (v := ?_) (a' := ?_) redlinelaw08_HistogramRun.aa_83 rfl rfl (take_ofW HT_.out HW_.out (by kernel_rfl)) (fun _ _ _ h => h) (Or.inl ⟨by rfl, ?_⟩) hHeld ?_ ?_
                     rotate_left
                     ·rintro w' ⟨s0, s1, s2, s3, s4, s5⟩
                      go_simp
                      with_reducible rfl
                     rotate_left
                     ·simp only [Act.put, List.setIfInBounds_toArray, List.set_cons_zero, List.set_cons_succ, i64_w, i32_w]
                      rfl
                     refine pw_ 2 153 redlinelaw08_HistogramRun.aa_84 HT_.out ?_ (hc := redlinelaw08_HistogramRun.ck_99)
                     refine pw_ 3 154 redlinelaw08_HistogramRun.aa_85 HT_.out ?_ (hc := redlinelaw08_HistogramRun.ck_100)
                     refine pw_ 4 155 redlinelaw08_HistogramRun.aa_86 HT_.out ?_ (hc := redlinelaw08_HistogramRun.ck_101)
                     refine take_ (i := 5) (N := some 156) (v := ?_) (a' := ?_) redlinelaw08_HistogramRun.aa_87 rfl rfl (take_ofW HT_.out HW_.out (by kernel_rfl)) (fun _ _ _ h => h) (Or.inl ⟨by rfl, ?_⟩) hHeld ?_ ?_
                     rotate_left
                     ·rintro w' ⟨s0, s1, s2, s3, s4, s5⟩
                      go_simp
                      with_reducible rfl
                     rotate_left
                     ·simp only [Act.put, List.setIfInBounds_toArray, List.set_cons_zero, List.set_cons_succ, i64_w, i32_w]
                      rfl
                     refine pw_ 6 157 redlinelaw08_HistogramRun.aa_88 HT_.out ?_ (hc := redlinelaw08_HistogramRun.ck_102)
                     refine pw_ 7 158 redlinelaw08_HistogramRun.aa_89 HT_.out ?_ (hc := redlinelaw08_HistogramRun.ck_103)
                     refine pw_ 8 159 redlinelaw08_HistogramRun.aa_90 HT_.out ?_ (hc := redlinelaw08_HistogramRun.ck_104)
                     refine pw_ 9 160 redlinelaw08_HistogramRun.aa_91 HT_.out ?_ (hc := redlinelaw08_HistogramRun.ck_105)
                     refine pw_ 10 161 redlinelaw08_HistogramRun.aa_92 HT_.out ?_ (hc := redlinelaw08_HistogramRun.ck_106)
                     refine pw_ 15 166 redlinelaw08_HistogramRun.aa_93 HT_.out ?_ (hc := redlinelaw08_HistogramRun.ck_107)
                     refine pw_ 16 167 redlinelaw08_HistogramRun.aa_94 HT_.out ?_ (hc := redlinelaw08_HistogramRun.ck_108)
                     refine take_ (i := 11) (N := some 162) (v := ?_) (a' := ?_) redlinelaw08_HistogramRun.aa_95 rfl rfl (take_ofW HT_.out HW_.out (by kernel_rfl)) (fun _ _ _ h => h) (Or.inl ⟨by rfl, ?_⟩) hHeld ?_ ?_
                     rotate_left
                     ·rintro w' ⟨s0, s1, s2, s3, s4, s5⟩
                      go_simp
                      with_reducible rfl
                     rotate_left
                     ·simp only [Act.put, List.setIfInBounds_toArray, List.set_cons_zero, List.set_cons_succ, i64_w, i32_w]
                      rfl
                     refine pw_ 12 163 redlinelaw08_HistogramRun.aa_96 HT_.out ?_ (hc := redlinelaw08_HistogramRun.ck_109)
                     refine pw_ 13 164 redlinelaw08_HistogramRun.aa_97 HT_.out ?_ (hc := redlinelaw08_HistogramRun.ck_110)
                     refine take_ (i := 14) (N := some 165) (v := ?_) (a' := ?_) redlinelaw08_HistogramRun.aa_98 rfl rfl (take_ofW HT_.out HW_.out (by kernel_rfl)) (fun _ _ _ h => h) (Or.inl ⟨by rfl, ?_⟩) hHeld ?_ ?_
                     rotate_left
                     ·rintro w' ⟨s0, s1, s2, s3, s4, s5⟩
                      go_simp
                      with_reducible rfl
                     rotate_left
                     ·simp only [Act.put, List.setIfInBounds_toArray, List.set_cons_zero, List.set_cons_succ, i64_w, i32_w]
                      rfl
                     refine take_ (i := 17) (N := some 168) (v := ?_) (a' := ?_) redlinelaw08_HistogramRun.aa_99 rfl rfl (take_ofW HT_.out HW_.out (by kernel_rfl)) (fun _ _ _ h => h) (Or.inl ⟨by rfl, ?_⟩) hHeld ?_ ?_
                     rotate_left
                     ·rintro w' ⟨s0, s1, s2, s3, s4, s5⟩
                      go_simp
                      with_reducible rfl
                     rotate_left
                     ·simp only [Act.put, List.setIfInBounds_toArray, List.set_cons_zero, List.set_cons_succ, i64_w, i32_w]
                      rfl
                     refine pw_ 18 169 redlinelaw08_HistogramRun.aa_100 HT_.out ?_ (hc := redlinelaw08_HistogramRun.ck_111)
                     refine pw_ 19 170 redlinelaw08_HistogramRun.aa_101 HT_.out ?_ (hc := redlinelaw08_HistogramRun.ck_112)
                     refine take_ (i := 20) (N := some 171) (v := ?_) (a' := ?_) redlinelaw08_HistogramRun.aa_102 rfl rfl (take_ofW HT_.out HW_.out (by kernel_rfl)) (fun _ _ _ h => h) (Or.inl ⟨by rfl, ?_⟩) hHeld ?_ ?_
                     rotate_left
                     ·rintro w' ⟨s0, s1, s2, s3, s4, s5⟩
                      go_simp
                      with_reducible rfl
                     rotate_left
                     ·simp only [Act.put, List.setIfInBounds_toArray, List.set_cons_zero, List.set_cons_succ, i64_w, i32_w]
                      rfl
                     refine pw_ 21 172 redlinelaw08_HistogramRun.aa_103 HT_.out ?_ (hc := redlinelaw08_HistogramRun.ck_113)
                     refine pw_ 22 173 redlinelaw08_HistogramRun.aa_104 HT_.out ?_ (hc := redlinelaw08_HistogramRun.ck_114)
                     refine pw_ 23 13 redlinelaw08_HistogramRun.aa_105 HT_.out ?_ (hc := redlinelaw08_HistogramRun.ck_115)
                     refine done_ (done_of HT_.out (by kernel_rfl)) ?_
                     try go_wp2
                     go_meet
                     case rel => exact ⟨_, (((rd l0 (ji61)) == (rd l1 (ji64)))), (by first | rfl | (simp; done) | (simp only [← hji61, ← hji64] <;> (first | rfl | simp)) | (simp [*]; done)), H', ⟨by have := HJ4.out; have := HK2.out; have := HJ33.out; first | omega | exact Nat.le_refl _⟩, ⟨by (with_reducible repeat (first | refine blk_drewN ?_ _ | refine blk_drew ?_ | refine blk_alloc ?_ _)); exact BK701.out⟩, ⟨by repeat (first | (with_reducible first | exact HB.out | apply below_alloc | apply pw_below_drewN | apply below_drew1 | refine below_set ?_ GE701.out) | exact HB.out)⟩⟩
                    ·rw [if_neg c66] at H
                     exact absurd H (by simp)
                   ·rw [if_neg c65] at H
                    exact absurd H (by simp)
                  ·rw [if_neg c63] at H
                   exact absurd H (by simp)
                 ·rw [if_neg c62] at H
                  exact absurd H (by simp)
                ·rw [if_neg c60] at H
                 have c60b0 : decide (0 < t697) = false := decide_eq_false c60
                 clear c60
                 have H' := Aside0.mk H
                 clear H
                 try go_wp2
                 have n0_ := Aside0.mk (blk_drew BK701.out)
                 have n1_ := Aside0.mk (below_drew1 HB.out)
                 clear BK701
                 clear HB
                 have BK701 := n0_
                 have HB := n1_
                 clear n0_ n1_
                 refine start_ (n := 24) (S := fun w' => w'.cell? ⟨gb701, 0, none⟩ = some (.int .i64 t696) ∧ w'.cell? ⟨gb701, 1, none⟩ = some (.int .i64 t697) ∧ w'.cell? ⟨gb701, 2, none⟩ = some (.int .i64 t698) ∧ w'.cell? ⟨gb701, 3, none⟩ = some (.int .i64 t699)) (ds := []) #[false, false, false, false, false, false, false, false, false, false, false, false, false, false, false, false, false, false, false, false, false, false, false, false] (by kernel_rfl) rfl rfl ⟨(blk_cell BK701.out 0).trans rfl, (blk_cell BK701.out 1).trans rfl, (blk_cell BK701.out 2).trans rfl, (blk_cell BK701.out 3).trans rfl⟩ (fun hHeld => ?_); refine with_tabW redlinelaw08_HistogramRun.tab26 redlinelaw08_HistogramRun.bits26 (fun HT_ HW_ => ?_)
                 generalize wc.drew = w68 at BK701 HB hHeld ⊢
                 refine pw_ 0 151 redlinelaw08_HistogramRun.aa_81 HT_.out ?_ (hc := redlinelaw08_HistogramRun.ck_98)
                 refine take_ (i := 1) (N := some 152) (v := ?_) (a' := ?_) redlinelaw08_HistogramRun.aa_83 rfl rfl (take_ofW HT_.out HW_.out (by kernel_rfl)) (fun _ _ _ h => h) (Or.inl ⟨by rfl, ?_⟩) hHeld ?_ ?_
                 rotate_left
                 ·rintro w' ⟨s0, s1, s2, s3⟩
                  go_simp
                  with_reducible rfl
                 rotate_left
                 ·simp only [Act.put, List.setIfInBounds_toArray, List.set_cons_zero, List.set_cons_succ, i64_w, i32_w]
                  rfl
                 refine pw_ 2 153 redlinelaw08_HistogramRun.aa_84 HT_.out ?_ (hc := redlinelaw08_HistogramRun.ck_99)
                 refine pw_ 3 154 redlinelaw08_HistogramRun.aa_85 HT_.out ?_ (hc := redlinelaw08_HistogramRun.ck_100)
                 refine pw_ 4 155 redlinelaw08_HistogramRun.aa_86 HT_.out ?_ (hc := redlinelaw08_HistogramRun.ck_101)
                 refine take_ (i := 5) (N := some 156) (v := ?_) (a' := ?_) redlinelaw08_HistogramRun.aa_87 rfl rfl (take_ofW HT_.out HW_.out (by kernel_rfl)) (fun _ _ _ h => h) (Or.inl ⟨by rfl, ?_⟩) hHeld ?_ ?_
                 rotate_left
                 ·rintro w' ⟨s0, s1, s2, s3⟩
                  go_simp
                  with_reducible rfl
                 rotate_left
                 ·simp only [Act.put, List.setIfInBounds_toArray, List.set_cons_zero, List.set_cons_succ, i64_w, i32_w]
                  rfl
                 refine pw_ 6 157 redlinelaw08_HistogramRun.aa_88 HT_.out ?_ (hc := redlinelaw08_HistogramRun.ck_102)
                 refine pw_ 7 158 redlinelaw08_HistogramRun.aa_89 HT_.out ?_ (hc := redlinelaw08_HistogramRun.ck_103)
                 refine pw_ 8 159 redlinelaw08_HistogramRun.aa_90 HT_.out ?_ (hc := redlinelaw08_HistogramRun.ck_104)
                 refine pu_ 9 160 redlinelaw08_HistogramRun.aa_91 HT_.out ?_ (hc := redlinelaw08_HistogramRun.ck_105)
                 refine pu_ 10 161 redlinelaw08_HistogramRun.aa_92 HT_.out ?_ (hc := redlinelaw08_HistogramRun.ck_106)
                 refine pu_ 11 162 redlinelaw08_HistogramRun.aa_106 HT_.out ?_ (hc := redlinelaw08_HistogramRun.ck_116)
                 refine pu_ 12 163 redlinelaw08_HistogramRun.aa_107 HT_.out ?_ (hc := redlinelaw08_HistogramRun.ck_117)
                 refine pu_ 13 164 redlinelaw08_HistogramRun.aa_108 HT_.out ?_ (hc := redlinelaw08_HistogramRun.ck_118)
                 refine pu_ 14 165 redlinelaw08_HistogramRun.aa_109 HT_.out ?_ (hc := redlinelaw08_HistogramRun.ck_119)
                 refine pu_ 15 166 redlinelaw08_HistogramRun.aa_110 HT_.out ?_ (hc := redlinelaw08_HistogramRun.ck_120)
                 refine pu_ 16 167 redlinelaw08_HistogramRun.aa_98 HT_.out ?_ (hc := redlinelaw08_HistogramRun.ck_121)
                 refine pu_ 17 168 redlinelaw08_HistogramRun.aa_99 HT_.out ?_ (hc := redlinelaw08_HistogramRun.ck_122)
                 refine pu_ 18 169 redlinelaw08_HistogramRun.aa_100 HT_.out ?_ (hc := redlinelaw08_HistogramRun.ck_111)
                 refine pu_ 19 170 redlinelaw08_HistogramRun.aa_101 HT_.out ?_ (hc := redlinelaw08_HistogramRun.ck_112)
                 refine pu_ 20 171 redlinelaw08_HistogramRun.aa_102 HT_.out ?_ (hc := redlinelaw08_HistogramRun.ck_123)
                 refine pu_ 21 172 redlinelaw08_HistogramRun.aa_103 HT_.out ?_ (hc := redlinelaw08_HistogramRun.ck_113)
                 refine pw_ 22 173 redlinelaw08_HistogramRun.aa_104 HT_.out ?_ (hc := redlinelaw08_HistogramRun.ck_114)
                 refine pw_ 23 13 redlinelaw08_HistogramRun.aa_105 HT_.out ?_ (hc := redlinelaw08_HistogramRun.ck_115)
                 refine done_ (done_of HT_.out (by kernel_rfl)) ?_
                 try go_wp2
                 go_meet
                 case rel => exact ⟨_, (false), (by first | rfl | (simp; done) | (simp [*]; done)), H', ⟨by have := HJ4.out; have := HK2.out; have := HJ33.out; first | omega | exact Nat.le_refl _⟩, ⟨by (with_reducible repeat (first | refine blk_drewN ?_ _ | refine blk_drew ?_ | refine blk_alloc ?_ _)); exact BK701.out⟩, ⟨by repeat (first | (with_reducible first | exact HB.out | apply below_alloc | apply pw_below_drewN | apply below_drew1 | refine below_set ?_ GE701.out) | exact HB.out)⟩⟩
              ·rw [if_neg c59] at H
               have c59b0 : decide (0 < t696) = false := decide_eq_false c59
               clear c59
               (first | rw [c59b0] | rw [c59b1] | (simp only [i64_w, i32_w]; rw [c59b0]) | skip)
               have H' := Aside0.mk H
               clear H
               try go_wp2
               have n0_ := Aside0.mk (blk_drew BK701.out)
               have n1_ := Aside0.mk (below_drew1 HB.out)
               clear BK701
               clear HB
               have BK701 := n0_
               have HB := n1_
               clear n0_ n1_
               refine start_ (n := 24) (S := fun w' => w'.cell? ⟨gb701, 0, none⟩ = some (.int .i64 t696) ∧ w'.cell? ⟨gb701, 1, none⟩ = some (.int .i64 t697) ∧ w'.cell? ⟨gb701, 2, none⟩ = some (.int .i64 t698) ∧ w'.cell? ⟨gb701, 3, none⟩ = some (.int .i64 t699)) (ds := []) #[false, false, false, false, false, false, false, false, false, false, false, false, false, false, false, false, false, false, false, false, false, false, false, false] (by kernel_rfl) rfl rfl ⟨(blk_cell BK701.out 0).trans rfl, (blk_cell BK701.out 1).trans rfl, (blk_cell BK701.out 2).trans rfl, (blk_cell BK701.out 3).trans rfl⟩ (fun hHeld => ?_); refine with_tabW redlinelaw08_HistogramRun.tab26 redlinelaw08_HistogramRun.bits26 (fun HT_ HW_ => ?_)
               generalize wc.drew = w69 at BK701 HB hHeld ⊢
               refine pw_ 0 151 redlinelaw08_HistogramRun.aa_81 HT_.out ?_ (hc := redlinelaw08_HistogramRun.ck_98)
               refine take_ (i := 1) (N := some 152) (v := ?_) (a' := ?_) redlinelaw08_HistogramRun.aa_83 rfl rfl (take_ofW HT_.out HW_.out (by kernel_rfl)) (fun _ _ _ h => h) (Or.inl ⟨by rfl, ?_⟩) hHeld ?_ ?_
               rotate_left
               ·rintro w' ⟨s0, s1, s2, s3⟩
                go_simp
                with_reducible rfl
               rotate_left
               ·simp only [Act.put, List.setIfInBounds_toArray, List.set_cons_zero, List.set_cons_succ, i64_w, i32_w]
                rfl
               refine pw_ 2 153 redlinelaw08_HistogramRun.aa_84 HT_.out ?_ (hc := redlinelaw08_HistogramRun.ck_99)
               refine pw_ 3 154 redlinelaw08_HistogramRun.aa_85 HT_.out ?_ (hc := redlinelaw08_HistogramRun.ck_100)
               refine pu_ 4 155 redlinelaw08_HistogramRun.aa_86 HT_.out ?_ (hc := redlinelaw08_HistogramRun.ck_101)
               refine pu_ 5 156 redlinelaw08_HistogramRun.aa_87 HT_.out ?_ (hc := redlinelaw08_HistogramRun.ck_124)
               refine pu_ 6 157 redlinelaw08_HistogramRun.aa_88 HT_.out ?_ (hc := redlinelaw08_HistogramRun.ck_102)
               refine pw_ 7 158 redlinelaw08_HistogramRun.aa_89 HT_.out ?_ (hc := redlinelaw08_HistogramRun.ck_103)
               refine pw_ 8 159 redlinelaw08_HistogramRun.aa_90 HT_.out ?_ (hc := redlinelaw08_HistogramRun.ck_104)
               refine pu_ 9 160 redlinelaw08_HistogramRun.aa_91 HT_.out ?_ (hc := redlinelaw08_HistogramRun.ck_105)
               refine pu_ 10 161 redlinelaw08_HistogramRun.aa_92 HT_.out ?_ (hc := redlinelaw08_HistogramRun.ck_106)
               refine pu_ 11 162 redlinelaw08_HistogramRun.aa_106 HT_.out ?_ (hc := redlinelaw08_HistogramRun.ck_116)
               refine pu_ 12 163 redlinelaw08_HistogramRun.aa_107 HT_.out ?_ (hc := redlinelaw08_HistogramRun.ck_117)
               refine pu_ 13 164 redlinelaw08_HistogramRun.aa_108 HT_.out ?_ (hc := redlinelaw08_HistogramRun.ck_118)
               refine pu_ 14 165 redlinelaw08_HistogramRun.aa_109 HT_.out ?_ (hc := redlinelaw08_HistogramRun.ck_119)
               refine pu_ 15 166 redlinelaw08_HistogramRun.aa_110 HT_.out ?_ (hc := redlinelaw08_HistogramRun.ck_120)
               refine pu_ 16 167 redlinelaw08_HistogramRun.aa_98 HT_.out ?_ (hc := redlinelaw08_HistogramRun.ck_121)
               refine pu_ 17 168 redlinelaw08_HistogramRun.aa_99 HT_.out ?_ (hc := redlinelaw08_HistogramRun.ck_122)
               refine pu_ 18 169 redlinelaw08_HistogramRun.aa_100 HT_.out ?_ (hc := redlinelaw08_HistogramRun.ck_111)
               refine pu_ 19 170 redlinelaw08_HistogramRun.aa_101 HT_.out ?_ (hc := redlinelaw08_HistogramRun.ck_112)
               refine pu_ 20 171 redlinelaw08_HistogramRun.aa_102 HT_.out ?_ (hc := redlinelaw08_HistogramRun.ck_123)
               refine pu_ 21 172 redlinelaw08_HistogramRun.aa_103 HT_.out ?_ (hc := redlinelaw08_HistogramRun.ck_113)
               refine pw_ 22 173 redlinelaw08_HistogramRun.aa_104 HT_.out ?_ (hc := redlinelaw08_HistogramRun.ck_114)
               refine pw_ 23 13 redlinelaw08_HistogramRun.aa_105 HT_.out ?_ (hc := redlinelaw08_HistogramRun.ck_115)
               refine done_ (done_of HT_.out (by kernel_rfl)) ?_
               try go_wp2
               go_meet
               case rel => exact ⟨_, (false), (by first | rfl | (simp; done) | (simp [*]; done)), H', ⟨by have := HJ4.out; have := HK2.out; have := HJ33.out; first | omega | exact Nat.le_refl _⟩, ⟨by (with_reducible repeat (first | refine blk_drewN ?_ _ | refine blk_drew ?_ | refine blk_alloc ?_ _)); exact BK701.out⟩, ⟨by repeat (first | (with_reducible first | exact HB.out | apply below_alloc | apply pw_below_drewN | apply below_drew1 | refine below_set ?_ GE701.out) | exact HB.out)⟩⟩
             case rest =>
              clear HC58
              try clear p2
              try clear c5
              try clear c6
              try clear p6
              try clear p7
              try clear q7
              try clear hx7
              try clear c57
              try clear c59
              try clear c59b0
              try clear c59b1
              try clear c60
              try clear c60b0
              try clear c62
              try clear c62b0
              try clear c63
              try clear c63b0
              try clear p64
              try clear c65
              try clear c65b0
              try clear c66
              try clear c66b0
              try clear hx709_0
              try clear hx710_0
              try clear p709
              try clear p710
              try clear q709
              try clear q710
              obtain ⟨kq, x13_57, rfl, HA, HJ57, BK701, HB⟩ := hcut
              cases kq with
              | zero => exact absurd HA.out (by simp [redlinelaw08_HistogramRun.j8])
              | succ kj57 =>
               have H := HA.out
               clear HA
               simp only [redlinelaw08_HistogramRun.j8] at H
               have HC70 := Aside0.mk H
               clear H
               go_upto_region 27 with (fail)
               go_cut [14] (fun v14 wc => ∃ (kq : Nat) (x14_69 : Bool), v14 = .bool x14_69 ∧ Aside0 (redlinelaw08_HistogramRun.j9 kq x13_57 x14_69 = some r) ∧ Aside0 (kq ≤ kj57) ∧ Aside0 (wc.heap[gb701]? = some (.cells #[.int .i64 t696, .int .i64 t697, .int .i64 t698, .int .i64 t699] 27 (0, 0))) ∧ Aside0 (Below w.heap.size w wc))
               case first =>
                have H := HC70.out
                clear HC70
                by_cases c71 : (wrap64 (t696 + t698)) < (l0.length : Int)
                ·rw [if_pos c71] at H
                 have c71b0 : decide ((wrap64 (t696 + t698)) < (l0.length : Int)) = true := decide_eq_true c71
                 clear c71
                 (first | rw [c71b0] | rw [c71b1] | (simp only [i64_w, i32_w]; rw [c71b0]) | skip)
                 by_cases c72 : (wrap64 (t697 + t698)) < (l1.length : Int)
                 ·rw [if_pos c72] at H
                  have c72b0 : decide ((wrap64 (t697 + t698)) < (l1.length : Int)) = true := decide_eq_true c72
                  clear c72
                  obtain ⟨ji73, hji73⟩ : ∃ j_ : Int, (wrap64 (t696 + t698)) = j_ := ⟨_, rfl⟩
                  replace H : (if 0 ≤ (ji73) then (if 0 ≤ (wrap64 (t697 + t698)) then (redlinelaw08_HistogramRun.j9 kj57 x13_57 ((rd l0 (ji73)) == (rd l1 (wrap64 (t697 + t698))))) else (none)) else (none)) = some r := by first | (rw [hji73] at H; exact H) | (simp only [hji73] at H ⊢; exact H)
                  (try rw [hji73] at c71b0)
                  have hji73w : (IntKind.i64.wrap (t696 + t698)) = ji73 := (i64_w _).trans hji73
                  by_cases c74 : 0 ≤ (ji73)
                  ·rw [if_pos c74] at H
                   have c74b0 : decide (0 ≤ (ji73)) = true := decide_eq_true c74
                   clear c74
                   obtain ⟨ji75, hji75⟩ : ∃ j_ : Int, (wrap64 (t697 + t698)) = j_ := ⟨_, rfl⟩
                   replace H : (if 0 ≤ (ji75) then (redlinelaw08_HistogramRun.j9 kj57 x13_57 ((rd l0 (ji73)) == (rd l1 (ji75)))) else (none)) = some r := by first | (rw [hji75] at H; exact H) | (simp only [hji75] at H ⊢; exact H)
                   (try rw [hji75] at c72b0)
                   have hji75w : (IntKind.i64.wrap (t697 + t698)) = ji75 := (i64_w _).trans hji75
                   by_cases c76 : 0 ≤ (ji75)
                   ·as_aux_lemma =>
                     rw [if_pos c76] at H
                     have c76b0 : decide (0 ≤ (ji75)) = true := decide_eq_true c76
                     clear c76
                     have H' := Aside0.mk H
                     clear H
                     try go_wp2
                     have n0_ := Aside0.mk (blk_drew BK701.out)
                     have n1_ := Aside0.mk (below_drew1 HB.out)
                     clear BK701
                     clear HB
                     have BK701 := n0_
                     have HB := n1_
                     clear n0_ n1_
                     have p711 : 0 ≤ ((ji73) : Int) := of_decide_eq_true (by first | (with_reducible assumption) | assumption)
                     have q711 : (ji73) < (l0.length : Int) := of_decide_eq_true (by first | (with_reducible assumption) | assumption)
                     obtain ⟨ad711, e711, hx711_0⟩ := Kd.at_int HR0.out (ji73) p711 q711
                     have hw711_0 := hx711_0
                     cases e711
                     replace hx711_0 := (HB.out.cell (World.block_lt_of_cell? w _ hx711_0)).trans hx711_0
                     replace p711 := eq_true p711
                     replace q711 := eq_true q711
                     have p712 : 0 ≤ ((ji75) : Int) := of_decide_eq_true (by first | (with_reducible assumption) | assumption)
                     have q712 : (ji75) < (l1.length : Int) := of_decide_eq_true (by first | (with_reducible assumption) | assumption)
                     obtain ⟨ad712, e712, hx712_0⟩ := Kd.at_int HR1.out (ji75) p712 q712
                     have hw712_0 := hx712_0
                     cases e712
                     replace hx712_0 := (HB.out.cell (World.block_lt_of_cell? w _ hx712_0)).trans hx712_0
                     replace p712 := eq_true p712
                     replace q712 := eq_true q712
                     refine start_ (n := 38) (S := fun w' => w'.cell? ⟨gb701, 0, none⟩ = some (.int .i64 t696) ∧ w'.cell? ⟨gb701, 1, none⟩ = some (.int .i64 t697) ∧ w'.cell? ⟨gb701, 2, none⟩ = some (.int .i64 t698) ∧ w'.cell? ⟨gb701, 3, none⟩ = some (.int .i64 t699) ∧ w'.cell? (ad711.add ((ji73)).toNat) = some (.int .i64 (rd l0 (ji73))) ∧ w'.cell? (ad712.add ((ji75)).toNat) = some (.int .i64 (rd l1 (ji75)))) (ds := []) #[false, false, false, false, false, false, false, false, false, false, false, false, false, false, false, false, false, false, false, false, false, false, false, false, false, false, false, false, false, false, false, false, false, false, false, false, false, false] (by kernel_rfl) rfl rfl ⟨(blk_cell BK701.out 0).trans rfl, (blk_cell BK701.out 1).trans rfl, (blk_cell BK701.out 2).trans rfl, (blk_cell BK701.out 3).trans rfl, ((HB.out.cell (World.block_lt_of_cell? w _ hw711_0)).trans hw711_0), ((HB.out.cell (World.block_lt_of_cell? w _ hw712_0)).trans hw712_0)⟩ (fun hHeld => ?_); refine with_tabW redlinelaw08_HistogramRun.tab27 redlinelaw08_HistogramRun.bits27 (fun HT_ HW_ => ?_)
                     generalize wc.drew = w77 at BK701 HB hx711_0 hx712_0 hHeld ⊢
                     refine pw_ 0 174 redlinelaw08_HistogramRun.aa_111 HT_.out ?_ (hc := redlinelaw08_HistogramRun.ck_125)
                     refine pw_ 2 176 redlinelaw08_HistogramRun.aa_113 HT_.out ?_ (hc := redlinelaw08_HistogramRun.ck_126)
                     refine pw_ 5 179 redlinelaw08_HistogramRun.aa_114 HT_.out ?_ (hc := redlinelaw08_HistogramRun.ck_127)
                     refine pw_ 6 180 redlinelaw08_HistogramRun.aa_115 HT_.out ?_ (hc := redlinelaw08_HistogramRun.ck_128)
                     refine take_ (i := 1) (N := some 175) (v := ?_) (a' := ?_) redlinelaw08_HistogramRun.aa_116 rfl rfl (take_ofW HT_.out HW_.out (by kernel_rfl)) (fun _ _ _ h => h) (Or.inl ⟨by rfl, ?_⟩) hHeld ?_ ?_
                     rotate_left
                     ·rintro w' ⟨s0, s1, s2, s3, s4, s5⟩
                      go_simp
                      with_reducible rfl
                     rotate_left
                     ·simp only [Act.put, List.setIfInBounds_toArray, List.set_cons_zero, List.set_cons_succ, i64_w, i32_w]
                      rfl
                     refine take_ (i := 3) (N := some 177) (v := ?_) (a' := ?_) redlinelaw08_HistogramRun.aa_117 rfl rfl (take_ofW HT_.out HW_.out (by kernel_rfl)) (fun _ _ _ h => h) (Or.inl ⟨by rfl, ?_⟩) hHeld ?_ ?_
                     rotate_left
                     ·rintro w' ⟨s0, s1, s2, s3, s4, s5⟩
                      go_simp
                      with_reducible rfl
                     rotate_left
                     ·simp only [Act.put, List.setIfInBounds_toArray, List.set_cons_zero, List.set_cons_succ, i64_w, i32_w]
                      rfl
                     refine pw_ 4 178 redlinelaw08_HistogramRun.aa_118 HT_.out ?_ (hc := redlinelaw08_HistogramRun.ck_129)
                     refine pw_ 7 181 redlinelaw08_HistogramRun.aa_119 HT_.out ?_ (hc := redlinelaw08_HistogramRun.ck_130)
                     refine pw_ 8 182 redlinelaw08_HistogramRun.aa_120 HT_.out ?_ (hc := redlinelaw08_HistogramRun.ck_131)
                     refine pw_ 9 183 redlinelaw08_HistogramRun.aa_121 HT_.out ?_ (hc := redlinelaw08_HistogramRun.ck_132)
                     refine pw_ 11 185 redlinelaw08_HistogramRun.aa_122 HT_.out ?_ (hc := redlinelaw08_HistogramRun.ck_133)
                     refine pw_ 14 188 redlinelaw08_HistogramRun.aa_123 HT_.out ?_ (hc := redlinelaw08_HistogramRun.ck_134)
                     refine pw_ 15 189 redlinelaw08_HistogramRun.aa_124 HT_.out ?_ (hc := redlinelaw08_HistogramRun.ck_135)
                     refine take_ (i := 10) (N := some 184) (v := ?_) (a' := ?_) redlinelaw08_HistogramRun.aa_125 rfl rfl (take_ofW HT_.out HW_.out (by kernel_rfl)) (fun _ _ _ h => h) (Or.inl ⟨by rfl, ?_⟩) hHeld ?_ ?_
                     rotate_left
                     ·rintro w' ⟨s0, s1, s2, s3, s4, s5⟩
                      go_simp
                      with_reducible rfl
                     rotate_left
                     ·simp only [Act.put, List.setIfInBounds_toArray, List.set_cons_zero, List.set_cons_succ, i64_w, i32_w]
                      rfl
                     refine take_ (i := 12) (N := some 186) (v := ?_) (a' := ?_) redlinelaw08_HistogramRun.aa_126 rfl rfl (take_ofW HT_.out HW_.out (by kernel_rfl)) (fun _ _ _ h => h) (Or.inl ⟨by rfl, ?_⟩) hHeld ?_ ?_
                     rotate_left
                     ·rintro w' ⟨s0, s1, s2, s3, s4, s5⟩
                      go_simp
                      with_reducible rfl
                     rotate_left
                     ·simp only [Act.put, List.setIfInBounds_toArray, List.set_cons_zero, List.set_cons_succ, i64_w, i32_w]
                      rfl
                     refine pw_ 13 187 redlinelaw08_HistogramRun.aa_127 HT_.out ?_ (hc := redlinelaw08_HistogramRun.ck_136)
                     refine pw_ 16 190 redlinelaw08_HistogramRun.aa_128 HT_.out ?_ (hc := redlinelaw08_HistogramRun.ck_137)
                     refine pw_ 17 191 redlinelaw08_HistogramRun.aa_129 HT_.out ?_ (hc := redlinelaw08_HistogramRun.ck_138)
                     refine pw_ 18 192 redlinelaw08_HistogramRun.aa_130 HT_.out ?_ (hc := redlinelaw08_HistogramRun.ck_139)
                     refine pw_ 19 193 redlinelaw08_HistogramRun.aa_131 HT_.out ?_ (hc := redlinelaw08_HistogramRun.ck_140)
                     refine pw_ 20 194 redlinelaw08_HistogramRun.aa_132 HT_.out ?_ (hc := redlinelaw08_HistogramRun.ck_141)
                     refine pw_ 22 196 redlinelaw08_HistogramRun.aa_133 HT_.out ?_ (hc := redlinelaw08_HistogramRun.ck_142)
                     refine pw_ 27 201 redlinelaw08_HistogramRun.aa_134 HT_.out ?_ (hc := redlinelaw08_HistogramRun.ck_143)
                     refine pw_ 28 202 redlinelaw08_HistogramRun.aa_135 HT_.out ?_ (hc := redlinelaw08_HistogramRun.ck_144)
                     refine pw_ 30 204 redlinelaw08_HistogramRun.aa_136 HT_.out ?_ (hc := redlinelaw08_HistogramRun.ck_145)
                     refine take_ (i := 21) (N := some 195) (v := ?_) (a' := ?_) redlinelaw08_HistogramRun.aa_137 rfl rfl (take_ofW HT_.out HW_.out (by kernel_rfl)) (fun _ _ _ h => h) (Or.inl ⟨by rfl, ?_⟩) hHeld ?_ ?_
                     rotate_left
                     ·rintro w' ⟨s0, s1, s2, s3, s4, s5⟩
                      go_simp
                      with_reducible rfl
                     rotate_left
                     ·simp only [Act.put, List.setIfInBounds_toArray, List.set_cons_zero, List.set_cons_succ, i64_w, i32_w]
                      rfl
                     refine take_ (i := 23) (N := some 197) (v := ?_) (a' := ?_) redlinelaw08_HistogramRun.aa_138 rfl rfl (take_ofW HT_.out HW_.out (by kernel_rfl)) (fun _ _ _ h => h) (Or.inl ⟨by rfl, ?_⟩) hHeld ?_ ?_
                     rotate_left
                     ·rintro w' ⟨s0, s1, s2, s3, s4, s5⟩
                      go_simp
                      with_reducible rfl
                     rotate_left
                     ·simp only [Act.put, List.setIfInBounds_toArray, List.set_cons_zero, List.set_cons_succ, i64_w, i32_w]
                      rfl
                     refine pw_ 24 198 redlinelaw08_HistogramRun.aa_139 HT_.out ?_ (hc := redlinelaw08_HistogramRun.ck_146)
                     refine pw_ 25 199 redlinelaw08_HistogramRun.aa_140 HT_.out ?_ (hc := redlinelaw08_HistogramRun.ck_147)
                     refine take_ (i := 26) (N := some 200) (v := ?_) (a' := ?_) redlinelaw08_HistogramRun.aa_141 rfl rfl (take_ofW HT_.out HW_.out (by kernel_rfl)) (fun _ _ _ h => h) (Or.inl ⟨by rfl, ?_⟩) hHeld ?_ ?_
                     rotate_left
                     ·rintro w' ⟨s0, s1, s2, s3, s4, s5⟩
                      go_simp
                      with_reducible rfl
                     rotate_left
                     ·simp only [Act.put, List.setIfInBounds_toArray, List.set_cons_zero, List.set_cons_succ, i64_w, i32_w]
                      rfl
                     refine take_ (i := 29) (N := some 203) (v := ?_) (a' := ?_) redlinelaw08_HistogramRun.aa_142 rfl rfl (take_ofW HT_.out HW_.out (by kernel_rfl)) (fun _ _ _ h => h) (Or.inl ⟨by rfl, ?_⟩) hHeld ?_ ?_
                     rotate_left
                     ·rintro w' ⟨s0, s1, s2, s3, s4, s5⟩
                      go_simp
                      with_reducible rfl
                     rotate_left
                     ·simp only [Act.put, List.setIfInBounds_toArray, List.set_cons_zero, List.set_cons_succ, i64_w, i32_w]
                      rfl
                     refine take_ (i := 31) (N := some 205) (v := ?_) (a' := ?_) redlinelaw08_HistogramRun.aa_143 rfl rfl (take_ofW HT_.out HW_.out (by kernel_rfl)) (fun _ _ _ h => h) (Or.inl ⟨by rfl, ?_⟩) hHeld ?_ ?_
                     rotate_left
                     ·rintro w' ⟨s0, s1, s2, s3, s4, s5⟩
                      go_simp
                      with_reducible rfl
                     rotate_left
                     ·simp only [Act.put, List.setIfInBounds_toArray, List.set_cons_zero, List.set_cons_succ, i64_w, i32_w]
                      rfl
                     refine pw_ 32 206 redlinelaw08_HistogramRun.aa_144 HT_.out ?_ (hc := redlinelaw08_HistogramRun.ck_148)
                     refine pw_ 33 207 redlinelaw08_HistogramRun.aa_145 HT_.out ?_ (hc := redlinelaw08_HistogramRun.ck_149)
                     refine take_ (i := 34) (N := some 208) (v := ?_) (a' := ?_) redlinelaw08_HistogramRun.aa_146 rfl rfl (take_ofW HT_.out HW_.out (by kernel_rfl)) (fun _ _ _ h => h) (Or.inl ⟨by rfl, ?_⟩) hHeld ?_ ?_
                     rotate_left
                     ·rintro w' ⟨s0, s1, s2, s3, s4, s5⟩
                      go_simp
                      with_reducible rfl
                     rotate_left
                     ·simp only [Act.put, List.setIfInBounds_toArray, List.set_cons_zero, List.set_cons_succ, i64_w, i32_w]
                      rfl
                     refine pw_ 35 209 redlinelaw08_HistogramRun.aa_147 HT_.out ?_ (hc := redlinelaw08_HistogramRun.ck_150)
                     refine pw_ 36 210 redlinelaw08_HistogramRun.aa_148 HT_.out ?_ (hc := redlinelaw08_HistogramRun.ck_151)
                     refine pw_ 37 14 redlinelaw08_HistogramRun.aa_149 HT_.out ?_ (hc := redlinelaw08_HistogramRun.ck_152)
                     refine done_ (done_of HT_.out (by kernel_rfl)) ?_
                     try go_wp2
                     go_meet
                     case rel => exact ⟨_, (((rd l0 (ji73)) == (rd l1 (ji75)))), (by first | rfl | (simp; done) | (simp only [← hji73, ← hji75] <;> (first | rfl | simp)) | (simp [*]; done)), H', ⟨by have := HJ4.out; have := HK2.out; have := HJ33.out; have := HJ57.out; first | omega | exact Nat.le_refl _⟩, ⟨by (with_reducible repeat (first | refine blk_drewN ?_ _ | refine blk_drew ?_ | refine blk_alloc ?_ _)); exact BK701.out⟩, ⟨by repeat (first | (with_reducible first | exact HB.out | apply below_alloc | apply pw_below_drewN | apply below_drew1 | refine below_set ?_ GE701.out) | exact HB.out)⟩⟩
                   ·rw [if_neg c76] at H
                    exact absurd H (by simp)
                  ·rw [if_neg c74] at H
                   exact absurd H (by simp)
                 ·as_aux_lemma =>
                   rw [if_neg c72] at H
                   have c72b0 : decide ((wrap64 (t697 + t698)) < (l1.length : Int)) = false := decide_eq_false c72
                   clear c72
                   have H' := Aside0.mk H
                   clear H
                   try go_wp2
                   have n0_ := Aside0.mk (blk_drew BK701.out)
                   have n1_ := Aside0.mk (below_drew1 HB.out)
                   clear BK701
                   clear HB
                   have BK701 := n0_
                   have HB := n1_
                   clear n0_ n1_
                   refine start_ (n := 38) (S := fun w' => w'.cell? ⟨gb701, 0, none⟩ = some (.int .i64 t696) ∧ w'.cell? ⟨gb701, 1, none⟩ = some (.int .i64 t697) ∧ w'.cell? ⟨gb701, 2, none⟩ = some (.int .i64 t698) ∧ w'.cell? ⟨gb701, 3, none⟩ = some (.int .i64 t699)) (ds := []) #[false, false, false, false, false, false, false, false, false, false, false, false, false, false, false, false, false, false, false, false, false, false, false, false, false, false, false, false, false, false, false, false, false, false, false, false, false, false] (by kernel_rfl) rfl rfl ⟨(blk_cell BK701.out 0).trans rfl, (blk_cell BK701.out 1).trans rfl, (blk_cell BK701.out 2).trans rfl, (blk_cell BK701.out 3).trans rfl⟩ (fun hHeld => ?_); refine with_tabW redlinelaw08_HistogramRun.tab27 redlinelaw08_HistogramRun.bits27 (fun HT_ HW_ => ?_)
                   generalize wc.drew = w78 at BK701 HB hHeld ⊢
                   refine pw_ 0 174 redlinelaw08_HistogramRun.aa_111 HT_.out ?_ (hc := redlinelaw08_HistogramRun.ck_125)
                   refine pw_ 2 176 redlinelaw08_HistogramRun.aa_113 HT_.out ?_ (hc := redlinelaw08_HistogramRun.ck_126)
                   refine pw_ 5 179 redlinelaw08_HistogramRun.aa_114 HT_.out ?_ (hc := redlinelaw08_HistogramRun.ck_127)
                   refine pw_ 6 180 redlinelaw08_HistogramRun.aa_115 HT_.out ?_ (hc := redlinelaw08_HistogramRun.ck_128)
                   refine take_ (i := 1) (N := some 175) (v := ?_) (a' := ?_) redlinelaw08_HistogramRun.aa_116 rfl rfl (take_ofW HT_.out HW_.out (by kernel_rfl)) (fun _ _ _ h => h) (Or.inl ⟨by rfl, ?_⟩) hHeld ?_ ?_
                   rotate_left
                   ·rintro w' ⟨s0, s1, s2, s3⟩
                    go_simp
                    with_reducible rfl
                   rotate_left
                   ·simp only [Act.put, List.setIfInBounds_toArray, List.set_cons_zero, List.set_cons_succ, i64_w, i32_w]
                    rfl
                   refine take_ (i := 3) (N := some 177) (v := ?_) (a' := ?_) redlinelaw08_HistogramRun.aa_117 rfl rfl (take_ofW HT_.out HW_.out (by kernel_rfl)) (fun _ _ _ h => h) (Or.inl ⟨by rfl, ?_⟩) hHeld ?_ ?_
                   rotate_left
                   ·rintro w' ⟨s0, s1, s2, s3⟩
                    go_simp
                    with_reducible rfl
                   rotate_left
                   ·simp only [Act.put, List.setIfInBounds_toArray, List.set_cons_zero, List.set_cons_succ, i64_w, i32_w]
                    rfl
                   refine pw_ 4 178 redlinelaw08_HistogramRun.aa_118 HT_.out ?_ (hc := redlinelaw08_HistogramRun.ck_129)
                   refine pw_ 7 181 redlinelaw08_HistogramRun.aa_119 HT_.out ?_ (hc := redlinelaw08_HistogramRun.ck_130)
                   refine pw_ 8 182 redlinelaw08_HistogramRun.aa_120 HT_.out ?_ (hc := redlinelaw08_HistogramRun.ck_131)
                   refine pw_ 9 183 redlinelaw08_HistogramRun.aa_121 HT_.out ?_ (hc := redlinelaw08_HistogramRun.ck_132)
                   refine pw_ 11 185 redlinelaw08_HistogramRun.aa_122 HT_.out ?_ (hc := redlinelaw08_HistogramRun.ck_133)
                   refine pw_ 14 188 redlinelaw08_HistogramRun.aa_123 HT_.out ?_ (hc := redlinelaw08_HistogramRun.ck_134)
                   refine pw_ 15 189 redlinelaw08_HistogramRun.aa_124 HT_.out ?_ (hc := redlinelaw08_HistogramRun.ck_135)
                   refine take_ (i := 10) (N := some 184) (v := ?_) (a' := ?_) redlinelaw08_HistogramRun.aa_125 rfl rfl (take_ofW HT_.out HW_.out (by kernel_rfl)) (fun _ _ _ h => h) (Or.inl ⟨by rfl, ?_⟩) hHeld ?_ ?_
                   rotate_left
                   ·rintro w' ⟨s0, s1, s2, s3⟩
                    go_simp
                    with_reducible rfl
                   rotate_left
                   ·simp only [Act.put, List.setIfInBounds_toArray, List.set_cons_zero, List.set_cons_succ, i64_w, i32_w]
                    rfl
                   refine take_ (i := 12) (N := some 186) (v := ?_) (a' := ?_) redlinelaw08_HistogramRun.aa_126 rfl rfl (take_ofW HT_.out HW_.out (by kernel_rfl)) (fun _ _ _ h => h) (Or.inl ⟨by rfl, ?_⟩) hHeld ?_ ?_
                   rotate_left
                   ·rintro w' ⟨s0, s1, s2, s3⟩
                    go_simp
                    with_reducible rfl
                   rotate_left
                   ·simp only [Act.put, List.setIfInBounds_toArray, List.set_cons_zero, List.set_cons_succ, i64_w, i32_w]
                    rfl
                   refine pw_ 13 187 redlinelaw08_HistogramRun.aa_127 HT_.out ?_ (hc := redlinelaw08_HistogramRun.ck_136)
                   refine pw_ 16 190 redlinelaw08_HistogramRun.aa_128 HT_.out ?_ (hc := redlinelaw08_HistogramRun.ck_137)
                   refine pw_ 17 191 redlinelaw08_HistogramRun.aa_129 HT_.out ?_ (hc := redlinelaw08_HistogramRun.ck_138)
                   refine pw_ 18 192 redlinelaw08_HistogramRun.aa_130 HT_.out ?_ (hc := redlinelaw08_HistogramRun.ck_139)
                   refine pu_ 19 193 redlinelaw08_HistogramRun.aa_131 HT_.out ?_ (hc := redlinelaw08_HistogramRun.ck_140)
                   refine pu_ 20 194 redlinelaw08_HistogramRun.aa_132 HT_.out ?_ (hc := redlinelaw08_HistogramRun.ck_141)
                   refine pu_ 21 195 redlinelaw08_HistogramRun.aa_150 HT_.out ?_ (hc := redlinelaw08_HistogramRun.ck_153)
                   refine pu_ 22 196 redlinelaw08_HistogramRun.aa_151 HT_.out ?_ (hc := redlinelaw08_HistogramRun.ck_154)
                   refine pu_ 23 197 redlinelaw08_HistogramRun.aa_152 HT_.out ?_ (hc := redlinelaw08_HistogramRun.ck_155)
                   refine pu_ 24 198 redlinelaw08_HistogramRun.aa_153 HT_.out ?_ (hc := redlinelaw08_HistogramRun.ck_156)
                   refine pu_ 25 199 redlinelaw08_HistogramRun.aa_154 HT_.out ?_ (hc := redlinelaw08_HistogramRun.ck_157)
                   refine pu_ 26 200 redlinelaw08_HistogramRun.aa_155 HT_.out ?_ (hc := redlinelaw08_HistogramRun.ck_158)
                   refine pu_ 27 201 redlinelaw08_HistogramRun.aa_156 HT_.out ?_ (hc := redlinelaw08_HistogramRun.ck_159)
                   refine pu_ 28 202 redlinelaw08_HistogramRun.aa_157 HT_.out ?_ (hc := redlinelaw08_HistogramRun.ck_160)
                   refine pu_ 29 203 redlinelaw08_HistogramRun.aa_158 HT_.out ?_ (hc := redlinelaw08_HistogramRun.ck_161)
                   refine pu_ 30 204 redlinelaw08_HistogramRun.aa_142 HT_.out ?_ (hc := redlinelaw08_HistogramRun.ck_162)
                   refine pu_ 31 205 redlinelaw08_HistogramRun.aa_143 HT_.out ?_ (hc := redlinelaw08_HistogramRun.ck_163)
                   refine pu_ 32 206 redlinelaw08_HistogramRun.aa_144 HT_.out ?_ (hc := redlinelaw08_HistogramRun.ck_148)
                   refine pu_ 33 207 redlinelaw08_HistogramRun.aa_145 HT_.out ?_ (hc := redlinelaw08_HistogramRun.ck_149)
                   refine pu_ 34 208 redlinelaw08_HistogramRun.aa_146 HT_.out ?_ (hc := redlinelaw08_HistogramRun.ck_164)
                   refine pu_ 35 209 redlinelaw08_HistogramRun.aa_147 HT_.out ?_ (hc := redlinelaw08_HistogramRun.ck_150)
                   refine pw_ 36 210 redlinelaw08_HistogramRun.aa_148 HT_.out ?_ (hc := redlinelaw08_HistogramRun.ck_151)
                   refine pw_ 37 14 redlinelaw08_HistogramRun.aa_149 HT_.out ?_ (hc := redlinelaw08_HistogramRun.ck_152)
                   refine done_ (done_of HT_.out (by kernel_rfl)) ?_
                   try go_wp2
                   go_meet
                   case rel => exact ⟨_, (false), (by first | rfl | (simp; done) | (simp [*]; done)), H', ⟨by have := HJ4.out; have := HK2.out; have := HJ33.out; have := HJ57.out; first | omega | exact Nat.le_refl _⟩, ⟨by (with_reducible repeat (first | refine blk_drewN ?_ _ | refine blk_drew ?_ | refine blk_alloc ?_ _)); exact BK701.out⟩, ⟨by repeat (first | (with_reducible first | exact HB.out | apply below_alloc | apply pw_below_drewN | apply below_drew1 | refine below_set ?_ GE701.out) | exact HB.out)⟩⟩
                ·as_aux_lemma =>
                  rw [if_neg c71] at H
                  have c71b0 : decide ((wrap64 (t696 + t698)) < (l0.length : Int)) = false := decide_eq_false c71
                  clear c71
                  (first | rw [c71b0] | rw [c71b1] | (simp only [i64_w, i32_w]; rw [c71b0]) | skip)
                  have H' := Aside0.mk H
                  clear H
                  try go_wp2
                  have n0_ := Aside0.mk (blk_drew BK701.out)
                  have n1_ := Aside0.mk (below_drew1 HB.out)
                  clear BK701
                  clear HB
                  have BK701 := n0_
                  have HB := n1_
                  clear n0_ n1_
                  refine start_ (n := 38) (S := fun w' => w'.cell? ⟨gb701, 0, none⟩ = some (.int .i64 t696) ∧ w'.cell? ⟨gb701, 1, none⟩ = some (.int .i64 t697) ∧ w'.cell? ⟨gb701, 2, none⟩ = some (.int .i64 t698) ∧ w'.cell? ⟨gb701, 3, none⟩ = some (.int .i64 t699)) (ds := []) #[false, false, false, false, false, false, false, false, false, false, false, false, false, false, false, false, false, false, false, false, false, false, false, false, false, false, false, false, false, false, false, false, false, false, false, false, false, false] (by kernel_rfl) rfl rfl ⟨(blk_cell BK701.out 0).trans rfl, (blk_cell BK701.out 1).trans rfl, (blk_cell BK701.out 2).trans rfl, (blk_cell BK701.out 3).trans rfl⟩ (fun hHeld => ?_); refine with_tabW redlinelaw08_HistogramRun.tab27 redlinelaw08_HistogramRun.bits27 (fun HT_ HW_ => ?_)
                  generalize wc.drew = w79 at BK701 HB hHeld ⊢
                  refine pw_ 0 174 redlinelaw08_HistogramRun.aa_111 HT_.out ?_ (hc := redlinelaw08_HistogramRun.ck_125)
                  refine pw_ 2 176 redlinelaw08_HistogramRun.aa_113 HT_.out ?_ (hc := redlinelaw08_HistogramRun.ck_126)
                  refine pw_ 5 179 redlinelaw08_HistogramRun.aa_114 HT_.out ?_ (hc := redlinelaw08_HistogramRun.ck_127)
                  refine pw_ 6 180 redlinelaw08_HistogramRun.aa_115 HT_.out ?_ (hc := redlinelaw08_HistogramRun.ck_128)
                  refine take_ (i := 1) (N := some 175) (v := ?_) (a' := ?_) redlinelaw08_HistogramRun.aa_116 rfl rfl (take_ofW HT_.out HW_.out (by kernel_rfl)) (fun _ _ _ h => h) (Or.inl ⟨by rfl, ?_⟩) hHeld ?_ ?_
                  rotate_left
                  ·rintro w' ⟨s0, s1, s2, s3⟩
                   go_simp
                   with_reducible rfl
                  rotate_left
                  ·simp only [Act.put, List.setIfInBounds_toArray, List.set_cons_zero, List.set_cons_succ, i64_w, i32_w]
                   rfl
                  refine take_ (i := 3) (N := some 177) (v := ?_) (a' := ?_) redlinelaw08_HistogramRun.aa_117 rfl rfl (take_ofW HT_.out HW_.out (by kernel_rfl)) (fun _ _ _ h => h) (Or.inl ⟨by rfl, ?_⟩) hHeld ?_ ?_
                  rotate_left
                  ·rintro w' ⟨s0, s1, s2, s3⟩
                   go_simp
                   with_reducible rfl
                  rotate_left
                  ·simp only [Act.put, List.setIfInBounds_toArray, List.set_cons_zero, List.set_cons_succ, i64_w, i32_w]
                   rfl
                  refine pw_ 4 178 redlinelaw08_HistogramRun.aa_118 HT_.out ?_ (hc := redlinelaw08_HistogramRun.ck_129)
                  refine pw_ 7 181 redlinelaw08_HistogramRun.aa_119 HT_.out ?_ (hc := redlinelaw08_HistogramRun.ck_130)
                  refine pw_ 8 182 redlinelaw08_HistogramRun.aa_120 HT_.out ?_ (hc := redlinelaw08_HistogramRun.ck_131)
                  refine pu_ 9 183 redlinelaw08_HistogramRun.aa_121 HT_.out ?_ (hc := redlinelaw08_HistogramRun.ck_132)
                  refine pu_ 10 184 redlinelaw08_HistogramRun.aa_159 HT_.out ?_ (hc := redlinelaw08_HistogramRun.ck_165)
                  refine pu_ 11 185 redlinelaw08_HistogramRun.aa_160 HT_.out ?_ (hc := redlinelaw08_HistogramRun.ck_166)
                  refine pu_ 12 186 redlinelaw08_HistogramRun.aa_161 HT_.out ?_ (hc := redlinelaw08_HistogramRun.ck_167)
                  refine pu_ 13 187 redlinelaw08_HistogramRun.aa_162 HT_.out ?_ (hc := redlinelaw08_HistogramRun.ck_168)
                  refine pu_ 14 188 redlinelaw08_HistogramRun.aa_163 HT_.out ?_ (hc := redlinelaw08_HistogramRun.ck_169)
                  refine pu_ 15 189 redlinelaw08_HistogramRun.aa_127 HT_.out ?_ (hc := redlinelaw08_HistogramRun.ck_170)
                  refine pu_ 16 190 redlinelaw08_HistogramRun.aa_128 HT_.out ?_ (hc := redlinelaw08_HistogramRun.ck_137)
                  refine pw_ 17 191 redlinelaw08_HistogramRun.aa_129 HT_.out ?_ (hc := redlinelaw08_HistogramRun.ck_138)
                  refine pw_ 18 192 redlinelaw08_HistogramRun.aa_130 HT_.out ?_ (hc := redlinelaw08_HistogramRun.ck_139)
                  refine pu_ 19 193 redlinelaw08_HistogramRun.aa_131 HT_.out ?_ (hc := redlinelaw08_HistogramRun.ck_140)
                  refine pu_ 20 194 redlinelaw08_HistogramRun.aa_132 HT_.out ?_ (hc := redlinelaw08_HistogramRun.ck_141)
                  refine pu_ 21 195 redlinelaw08_HistogramRun.aa_150 HT_.out ?_ (hc := redlinelaw08_HistogramRun.ck_153)
                  refine pu_ 22 196 redlinelaw08_HistogramRun.aa_151 HT_.out ?_ (hc := redlinelaw08_HistogramRun.ck_154)
                  refine pu_ 23 197 redlinelaw08_HistogramRun.aa_152 HT_.out ?_ (hc := redlinelaw08_HistogramRun.ck_155)
                  refine pu_ 24 198 redlinelaw08_HistogramRun.aa_153 HT_.out ?_ (hc := redlinelaw08_HistogramRun.ck_156)
                  refine pu_ 25 199 redlinelaw08_HistogramRun.aa_154 HT_.out ?_ (hc := redlinelaw08_HistogramRun.ck_157)
                  refine pu_ 26 200 redlinelaw08_HistogramRun.aa_155 HT_.out ?_ (hc := redlinelaw08_HistogramRun.ck_158)
                  refine pu_ 27 201 redlinelaw08_HistogramRun.aa_156 HT_.out ?_ (hc := redlinelaw08_HistogramRun.ck_159)
                  refine pu_ 28 202 redlinelaw08_HistogramRun.aa_157 HT_.out ?_ (hc := redlinelaw08_HistogramRun.ck_160)
                  refine pu_ 29 203 redlinelaw08_HistogramRun.aa_158 HT_.out ?_ (hc := redlinelaw08_HistogramRun.ck_161)
                  refine pu_ 30 204 redlinelaw08_HistogramRun.aa_142 HT_.out ?_ (hc := redlinelaw08_HistogramRun.ck_162)
                  refine pu_ 31 205 redlinelaw08_HistogramRun.aa_143 HT_.out ?_ (hc := redlinelaw08_HistogramRun.ck_163)
                  refine pu_ 32 206 redlinelaw08_HistogramRun.aa_144 HT_.out ?_ (hc := redlinelaw08_HistogramRun.ck_148)
                  refine pu_ 33 207 redlinelaw08_HistogramRun.aa_145 HT_.out ?_ (hc := redlinelaw08_HistogramRun.ck_149)
                  refine pu_ 34 208 redlinelaw08_HistogramRun.aa_146 HT_.out ?_ (hc := redlinelaw08_HistogramRun.ck_164)
                  refine pu_ 35 209 redlinelaw08_HistogramRun.aa_147 HT_.out ?_ (hc := redlinelaw08_HistogramRun.ck_150)
                  refine pw_ 36 210 redlinelaw08_HistogramRun.aa_148 HT_.out ?_ (hc := redlinelaw08_HistogramRun.ck_151)
                  refine pw_ 37 14 redlinelaw08_HistogramRun.aa_149 HT_.out ?_ (hc := redlinelaw08_HistogramRun.ck_152)
                  refine done_ (done_of HT_.out (by kernel_rfl)) ?_
                  try go_wp2
                  go_meet
                  case rel => exact ⟨_, (false), (by first | rfl | (simp; done) | (simp [*]; done)), H', ⟨by have := HJ4.out; have := HK2.out; have := HJ33.out; have := HJ57.out; first | omega | exact Nat.le_refl _⟩, ⟨by (with_reducible repeat (first | refine blk_drewN ?_ _ | refine blk_drew ?_ | refine blk_alloc ?_ _)); exact BK701.out⟩, ⟨by repeat (first | (with_reducible first | exact HB.out | apply below_alloc | apply pw_below_drewN | apply below_drew1 | refine below_set ?_ GE701.out) | exact HB.out)⟩⟩
               case rest =>
                clear HC70
                try clear p2
                try clear p6
                try clear c7
                try clear p64
                try clear c71
                try clear c71b0
                try clear c71b1
                try clear c72
                try clear c72b0
                try clear c74
                try clear c76
                obtain ⟨kq, x14_69, rfl, HA, HJ69, BK701, HB⟩ := hcut
                cases kq with
                | zero => exact absurd HA.out (by simp [redlinelaw08_HistogramRun.j9])
                | succ kj69 =>
                 have H := HA.out
                 clear HA
                 simp only [redlinelaw08_HistogramRun.j9] at H
                 by_cases c80 : x13_57 = true
                 ·subst c80
                  have H1 : (some false) = some r := by rw [if_pos rfl] at H; exact H
                  clear H
                  have H := H1
                  clear H1
                  obtain rfl := Option.some.inj H
                  go_wp2
                  go_ret
                  exact ⟨by first | rfl | (simp [errW_none, errW_some] <;> rfl) | (simp [*, errW_none, errW_some] <;> rfl), by repeat (first | (with_reducible first | exact HB.out | apply below_alloc | apply pw_below_drewN | apply below_drew1 | refine below_set ?_ GE701.out) | exact HB.out)⟩
                 ·replace c80 := Bool.eq_false_iff.mpr c80
                  subst c80
                  have H1 : (some (!x14_69)) = some r := by rw [if_neg (show ¬ (false = true) by decide)] at H; exact H
                  clear H
                  have H := H1
                  clear H1
                  obtain rfl := Option.some.inj H
                  go_wp2
                  go_ret
                  exact ⟨by first | rfl | (simp [errW_none, errW_some] <;> rfl) | (simp [*, errW_none, errW_some] <;> rfl), by repeat (first | (with_reducible first | exact HB.out | apply below_alloc | apply pw_below_drewN | apply below_drew1 | refine below_set ?_ GE701.out) | exact HB.out)⟩
         ·replace c33 := Bool.eq_false_iff.mpr c33
          subst c33
          have H1 : (if x7_2 > (l0.length : Int) then (some (t696 == 0 && (t697 == 0 && (t698 == 0 && (t699 == 0))))) else (some false)) = some r := by rw [if_neg (show ¬ (false = true) by decide)] at H; exact H
          clear H
          have H := H1
          clear H1
          by_cases c81 : x7_2 > (l0.length : Int)
          ·rw [if_pos c81] at H
           have c81b0 : decide ((l0.length : Int) < x7_2) = true := decide_eq_true c81
           clear c81
           obtain rfl := Option.some.inj H
           have hcz82_0 : wr.cell? ⟨gb701, 0, none⟩ = some (.int .i64 t696) := (blk_cell BK701.out 0).trans rfl
           have hcz82_1 : wr.cell? ⟨gb701, 1, none⟩ = some (.int .i64 t697) := (blk_cell BK701.out 1).trans rfl
           have hcz82_2 : wr.cell? ⟨gb701, 2, none⟩ = some (.int .i64 t698) := (blk_cell BK701.out 2).trans rfl
           have hcz82_3 : wr.cell? ⟨gb701, 3, none⟩ = some (.int .i64 t699) := (blk_cell BK701.out 3).trans rfl
           have hfz82_0 := blk_frozen BK701.out 0
           have hfz82_1 := blk_frozen BK701.out 1
           have hfz82_2 := blk_frozen BK701.out 2
           have hfz82_3 := blk_frozen BK701.out 3
           go_wp2
           go_ret
           exact ⟨by first | rfl | (simp [errW_none, errW_some] <;> rfl) | (simp [*, errW_none, errW_some] <;> rfl), by repeat (first | (with_reducible first | exact HB.out | apply below_alloc | apply pw_below_drewN | apply below_drew1 | refine below_set ?_ GE701.out) | exact HB.out)⟩
          ·rw [if_neg c81] at H
           have c81b0 : decide ((l0.length : Int) < x7_2) = false := decide_eq_false c81
           clear c81
           obtain rfl := Option.some.inj H
           go_wp2
           go_ret
           exact ⟨by first | rfl | (simp [errW_none, errW_some] <;> rfl) | (simp [*, errW_none, errW_some] <;> rfl), by repeat (first | (with_reducible first | exact HB.out | apply below_alloc | apply pw_below_drewN | apply below_drew1 | refine below_set ?_ GE701.out) | exact HB.out)⟩
  ·replace c4 := Bool.eq_false_iff.mpr c4
   subst c4
   have H1 : (some false) = some r := by rw [if_neg (show ¬ (false = true) by decide)] at H; exact H
   clear H
   have H := H1
   clear H1
   obtain rfl := Option.some.inj H
   go_enter Try.func13, Try.ntmps13
   go_wp2_with (first | ((with_reducible refine gate_callee (f := 34) rfl ?_); refine goesL_ (some 15) rfl rfl Try.func34 (by kernel_rfl) rfl #[] rfl (by (try simp only [List.map_toArray, List.map_cons, List.map_nil]); first | done | rfl | (simp only [List.length_drop, List.length_take]; rfl)) ?_; (with_reducible refine (redlinelaw08_works.calls k  false _ A3.out).mono ?_); rintro e w83 ⟨rfl, hb⟩; refine ⟨_, rfl, ?_⟩; have n0_ := Aside0.mk (below_step (by repeat (first | (with_reducible first | exact HB.out | apply below_alloc | apply pw_below_drewN | apply below_drew1) | exact HB.out)) hb); clear HB; have HB := n0_; clear n0_; (try clear hb); (try clear hb2); (try clear hk); (try clear hi)))
   go_ret
   exact ⟨by first | rfl | (simp [errW_none, errW_some] <;> rfl) | (simp [*, errW_none, errW_some] <;> rfl), by repeat (first | (with_reducible first | exact HB.out | apply below_alloc | apply pw_below_drewN | apply below_drew1) | exact HB.out)⟩
/-- THE ONE PURE STATEMENT of redlinelaw08_HistogramRun: yours. -/
def redlinelaw08_HistogramRun.Pure : Prop := ∀ (l0 : List Int) (l1 : List Int), l0.length ≤ maxLen → l0.length * 8 ≤ 140737488351232 → (∀ x ∈ l0, (Lit.int .i64 x).wf = true) → l1.length ≤ maxLen → l1.length * 8 ≤ 140737488351232 → (∀ x ∈ l1, (Lit.int .i64 x).wf = true) → ∃ k, redlinelaw08_HistogramRun.f k l0 l1 = some true
theorem redlinelaw08_HistogramRun.walk (P : redlinelaw08_HistogramRun.Pure) (a0 : Option Addr) (len0 cap0 : Nat) (z0 : List Int) (a1 : Option Addr) (len1 cap1 : Nat) (z1 : List Int) (w : World) (w0 : (a0 = none ∧ len0 = 0 ∧ cap0 = 0 ∧ z0 = []) ∨ ∃ x, a0 = some x ∧ len0 ≤ cap0 ∧ cap0 ≤ maxLen ∧ z0.length = cap0 ∧ (∀ i, i < z0.length → w.cell? (x.add i) = some (.int .i64 (z0.getD i 0))) ∧ ∀ n ∈ z0, (Lit.int .i64 n).wf = true) (y0 : len0 * 8 ≤ 140737488351232) (w1 : (a1 = none ∧ len1 = 0 ∧ cap1 = 0 ∧ z1 = []) ∨ ∃ x, a1 = some x ∧ len1 ≤ cap1 ∧ cap1 ≤ maxLen ∧ z1.length = cap1 ∧ (∀ i, i < z1.length → w.cell? (x.add i) = some (.int .i64 (z1.getD i 0))) ∧ ∀ n ∈ z1, (Lit.int .i64 n).wf = true) (y1 : len1 * 8 ≤ 140737488351232) :
    Calls Try.prog 13 #[.slice a0 len0 cap0, .slice a1 len1 cap1] w fun e w' => e = .returned (.bool true) ∧ Below w.heap.size w w' := by
  obtain ⟨l0, rfl, hr0, hm0, hw0, hc0⟩ := ReadsInt.ofRowC w0
  obtain ⟨l1, rfl, hr1, hm1, hw1, hc1⟩ := ReadsInt.ofRowC w1
  obtain ⟨k, h⟩ := P l0 l1 hm0 y0 hw0 hm1 y1 hw1
  refine (redlinelaw08_HistogramRun.calls k _ _ l0 _ _ l1 true w (Kd.C_of_reads (d := (0 : Int)) (h1 := fun _ => rfl) hr0) hc0 (Kd.C_of_reads (d := (0 : Int)) (h1 := fun _ => rfl) hr1) hc1 h).mono ?_
  rintro e w' ⟨rfl, hd⟩
  exact ⟨rfl, hd⟩
end Go.Proofs.Ytdcldoembdifpaa.X
