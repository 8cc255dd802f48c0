import Derived.Test.YtnbeppnpfdempaaZAXx0
import Derived.Test.YtnbeppnpfdempaaZAXx59
import Derived.Test.YtnbeppnpfdempaaZAXx60
namespace Go.Proofs.Ytnbeppnpfdempaa.X
open Go.RowKit Go.Proofs.YtnbeppnpfdempaaW.PrintWords Go.Proofs.YtnbeppnpfdempaaW.PrintLast Go.Proofs.YtnbeppnpfdempaaW.PrintMore
attribute [local go_sem] max2_int min2_int max_two min_two max_three min_three max_four min_four   -- for this text's walks alone
open Go.Proofs.YtnbeppnpfdempaaW.HandWords
set_option linter.unusedVariables false
set_option linter.unusedSimpArgs false
mutual
def redlineref11_fields.l0 : Nat → Int → Int → Int → Int → Int → List (S76) → Option (Bool)
  | 0, _, _, _, _, _, _ => none
  | k + 1, x3, x261000, x261001, x261002, x261003, x261004 => if x3 < (x261004.length : Int) then (if 0 ≤ x3 then ((redlineref11_line.f k ((rd_T76 x261004 x3).f1)).bind fun bt263 => (if bt263.1 = true then (if ((rd_T76 x261004 x3).f0) = 32 then (redlineref11_fields.j1 k x3 bt263.2 false x261000 x261001 x261002 x261003 x261004 ((rd_T76 x261004 x3).f0) ((rd_T76 x261004 x3).f1)) else (if ((rd_T76 x261004 x3).f0) = 45 then (redlineref11_fields.j1 k x3 bt263.2 false x261000 x261001 x261002 x261003 x261004 ((rd_T76 x261004 x3).f0) ((rd_T76 x261004 x3).f1)) else (redlineref11_fields.j1 k x3 bt263.2 (((rd_T76 x261004 x3).f0) != 43) x261000 x261001 x261002 x261003 x261004 ((rd_T76 x261004 x3).f0) ((rd_T76 x261004 x3).f1)))) else (redlineref11_fields.j1 k x3 bt263.2 true x261000 x261001 x261002 x261003 x261004 ((rd_T76 x261004 x3).f0) ((rd_T76 x261004 x3).f1)))) else (none)) else (some true)
def redlineref11_fields.j1 : Nat → Int → Bool → Bool → Int → Int → Int → Int → List (S76) → Int → ByteArray → Option (Bool)
  | 0, _, _, _, _, _, _, _, _, _, _ => none
  | k + 1, x3, x6, x41, x261000, x261001, x261002, x261003, x261004, x263000, x263001 => if x41 = true then (some false) else (if x6 = true then (redlineref11_fields.l0 k (wrap64 (x3 + 1)) x261000 x261001 x261002 x261003 x261004) else (if x263000 = 43 then (if x263000 = 45 then (redlineref11_fields.l0 k (wrap64 (x3 + 1)) x261000 x261001 x261002 x261003 x261004) else ((redlineref11_last.f k x261000 x261001 x261002 x261003 x261004 x3 43).bind fun t265 => (if t265 = true then (redlineref11_fields.l0 k (wrap64 (x3 + 1)) x261000 x261001 x261002 x261003 x261004) else (some false)))) else ((redlineref11_last.f k x261000 x261001 x261002 x261003 x261004 x3 45).bind fun t266 => (if t266 = true then (if x263000 = 45 then (redlineref11_fields.l0 k (wrap64 (x3 + 1)) x261000 x261001 x261002 x261003 x261004) else ((redlineref11_last.f k x261000 x261001 x261002 x261003 x261004 x3 43).bind fun t267 => (if t267 = true then (redlineref11_fields.l0 k (wrap64 (x3 + 1)) x261000 x261001 x261002 x261003 x261004) else (some false)))) else (some false)))))
end
def redlineref11_fields.f (k : Nat) (a0_0 : Int) (a0_1 : Int) (a0_2 : Int) (a0_3 : Int) (l0_4 : List (S76)) : Option (Bool) := redlineref11_fields.l0 k 0 a0_0 a0_1 a0_2 a0_3 l0_4
set_option maxHeartbeats 8000000 in
set_option maxRecDepth 100000 in
theorem redlineref11_fields.calls (k : Nat) (a0_0 : Int) (a0_1 : Int) (a0_2 : Int) (a0_3 : Int) (A0_4 : Option Addr) (c0_4 : Nat) (l0_4 : List (S76)) (r : Bool) (w : World) (hr0_4 : Kd.C k76 w A0_4 l0_4.length l0_4) (hc0_4 : l0_4.length ≤ c0_4) (h : redlineref11_fields.f k a0_0 a0_1 a0_2 a0_3 l0_4 = some r) :
    Calls Try.prog 63 #[.agg #[.int .i64 a0_0, .int .i64 a0_1, .int .i64 a0_2, .int .i64 a0_3, .slice A0_4 l0_4.length c0_4]] w fun e w' => e = .returned (.bool r) ∧ Below w.heap.size w w' := by
  have hu57 := Try.underlying57
  have hu76 := Try.underlying76
  have HR0_4 := Aside0.mk hr0_4
  have HC0_4 := Aside0.mk hc0_4
  clear hr0_4 hc0_4
  have HB := Aside0.mk (Below.refl w.heap.size w)
  have H : (redlineref11_fields.l0 k 0 a0_0 a0_1 a0_2 a0_3 l0_4) = some r := h
  clear h
  have H' := Aside0.mk H
  clear H
  go_enter Try.func63, Try.ntmps63
  go_wp2_with (first | ((with_reducible refine gate_dst (N := 1) rfl ?_); refine box_event ?hg (N := 1) ?hd (cs := #[.int .i64 a0_0, .int .i64 a0_1, .int .i64 a0_2, .int .i64 a0_3, .slice A0_4 l0_4.length c0_4]) (t := 57) ?hr ?_; (case hd => rfl); (case hg => rfl); (case hr => first | (go_simp; done) | (go_simp; rfl)); intro gb260 hg w2 hbox hb; have n0_ := Aside0.mk (below_step (by repeat (first | (with_reducible first | exact HB.out | apply below_alloc | apply pw_below_drewN | apply below_drew1) | exact HB.out)) hb); have n1_ := Aside0.mk (hbox); have n2_ := Aside0.mk ((by rw [hg]; exact (below_size (by repeat (first | (with_reducible first | exact HB.out | apply below_alloc | apply pw_below_drewN | apply below_drew1) | exact HB.out))) : w.heap.size ≤ gb260)); have n3_ := Aside0.mk ((by rw [hg]; exact (below_size (by repeat (first | (with_reducible first | exact HB.out | apply below_alloc | apply pw_below_drewN | apply below_drew1) | exact HB.out))) : w.heap.size ≤ gb260)); clear HB; have HB := n0_; have BK260 := n1_; have GW260 := n2_; have GE260 := n3_; clear n0_ n1_ n2_ n3_; clear hb hbox hg))
  go_loopg [3] k (fun kq v3 w' => ∃ (x3_1 : Int), v3 = .int .i64 x3_1 ∧ Aside0 (redlineref11_fields.l0 kq x3_1 a0_0 a0_1 a0_2 a0_3 l0_4 = some r) ∧ Aside0 (kq ≤ k) ∧ Aside0 (w'.heap[gb260]? = some (.cells #[.int .i64 a0_0, .int .i64 a0_1, .int .i64 a0_2, .int .i64 a0_3, (.slice A0_4 l0_4.length c0_4)] 57 (0, 0))) ∧ Aside0 (Below w.heap.size w w'))
  case atStart => exact ⟨(0), (by first | rfl | (simp; done) | (simp [*]; done)), H', ⟨Nat.le_refl _⟩, ⟨by (with_reducible repeat (first | refine blk_drewN ?_ _ | refine blk_drew ?_ | refine blk_alloc ?_ _)); exact BK260.out⟩, ⟨by repeat (first | (with_reducible first | exact HB.out | apply below_alloc | apply pw_below_drewN | apply below_drew1 | refine below_set ?_ GE260.out) | exact HB.out)⟩⟩
  case round =>
   clear H'
   try clear p2
   obtain ⟨x3_1, rfl, HA, HK1, BK260, HB⟩ := hrel
   cases gk with
   | zero => exact absurd HA.out (by simp [redlineref11_fields.l0])
   | succ k1 =>
    have H := HA.out
    clear HA
    simp only [redlineref11_fields.l0] at H
    by_cases c3 : x3_1 < (l0_4.length : Int)
    ·rw [if_pos c3] at H
     have c3b0 : decide (x3_1 < (l0_4.length : Int)) = true := decide_eq_true c3
     clear c3
     by_cases c4 : 0 ≤ x3_1
     ·rw [if_pos c4] at H
      have c4b0 : decide (0 ≤ x3_1) = true := decide_eq_true c4
      clear c4
      replace H := Option.bind_eq_some_iff.mp H
      obtain ⟨⟨t263, t264⟩, A50, H⟩ := H
      replace H : (if t263 = true then (if ((rd_T76 l0_4 x3_1).f0) = 32 then (redlineref11_fields.j1 k1 x3_1 t264 false a0_0 a0_1 a0_2 a0_3 l0_4 ((rd_T76 l0_4 x3_1).f0) ((rd_T76 l0_4 x3_1).f1)) else (if ((rd_T76 l0_4 x3_1).f0) = 45 then (redlineref11_fields.j1 k1 x3_1 t264 false a0_0 a0_1 a0_2 a0_3 l0_4 ((rd_T76 l0_4 x3_1).f0) ((rd_T76 l0_4 x3_1).f1)) else (redlineref11_fields.j1 k1 x3_1 t264 (((rd_T76 l0_4 x3_1).f0) != 43) a0_0 a0_1 a0_2 a0_3 l0_4 ((rd_T76 l0_4 x3_1).f0) ((rd_T76 l0_4 x3_1).f1)))) else (redlineref11_fields.j1 k1 x3_1 t264 true a0_0 a0_1 a0_2 a0_3 l0_4 ((rd_T76 l0_4 x3_1).f0) ((rd_T76 l0_4 x3_1).f1))) = some r := H
      have A5 := Aside0.mk A50
      clear A50
      have HC6 := Aside0.mk H
      clear H
      have hcz7_0 : wr.cell? ⟨gb260, 0, none⟩ = some (.int .i64 a0_0) := (blk_cell BK260.out 0).trans rfl
      have hcz7_1 : wr.cell? ⟨gb260, 1, none⟩ = some (.int .i64 a0_1) := (blk_cell BK260.out 1).trans rfl
      have hcz7_2 : wr.cell? ⟨gb260, 2, none⟩ = some (.int .i64 a0_2) := (blk_cell BK260.out 2).trans rfl
      have hcz7_3 : wr.cell? ⟨gb260, 3, none⟩ = some (.int .i64 a0_3) := (blk_cell BK260.out 3).trans rfl
      have hcz7_4 : wr.cell? ⟨gb260, 4, none⟩ = some (.slice A0_4 l0_4.length c0_4) := (blk_cell BK260.out 4).trans rfl
      have hfz7_0 := blk_frozen BK260.out 0
      have hfz7_1 := blk_frozen BK260.out 1
      have hfz7_2 := blk_frozen BK260.out 2
      have hfz7_3 := blk_frozen BK260.out 3
      have hfz7_4 := blk_frozen BK260.out 4
      have p261 : 0 ≤ (x3_1 : Int) := of_decide_eq_true (by first | (with_reducible assumption) | assumption)
      have q261 : x3_1 < (l0_4.length : Int) := of_decide_eq_true (by first | (with_reducible assumption) | assumption)
      obtain ⟨ad261, e261, hx261_0, hx261_1⟩ := at_T76 HR0_4.out x3_1 p261 q261
      cases e261
      replace hx261_0 := (HB.out.cell (World.block_lt_of_cell? w _ hx261_0)).trans hx261_0
      replace hx261_1 := (HB.out.cell (World.block_lt_of_cell? w _ hx261_1)).trans hx261_1
      replace p261 := eq_true p261
      replace q261 := eq_true q261
      go_upto_region 6 with (first | ((with_reducible refine gate_dst (N := 4) rfl ?_); refine box_event ?hg (N := 4) ?hd (cs := #[.int .u8 0, .string (⟨#[]⟩ : ByteArray)]) (t := 76) ?hr ?_; (case hd => rfl); (case hg => rfl); (case hr => first | (go_simp; done) | (go_simp; rfl)); intro gb262 hg w8 hbox hb; have n0_ := Aside0.mk (blk_below (g := gb260) (o := .cells #[.int .i64 a0_0, .int .i64 a0_1, .int .i64 a0_2, .int .i64 a0_3, .slice (some ad261) l0_4.length c0_4] 57 (0, 0)) (by (with_reducible repeat (first | refine blk_drewN ?_ _ | refine blk_drew ?_ | refine blk_alloc ?_ _)); exact BK260.out) hb); have n1_ := Aside0.mk (below_step (by repeat (first | (with_reducible first | exact HB.out | apply below_alloc | apply pw_below_drewN | apply below_drew1 | refine below_set ?_ GE260.out) | exact HB.out)) hb); have n2_ := Aside0.mk (hbox); have n3_ := Aside0.mk ((by rw [hg]; exact (below_size (by repeat (first | (with_reducible first | exact HB.out | apply below_alloc | apply pw_below_drewN | apply below_drew1 | refine below_set ?_ GE260.out) | exact HB.out))) : w.heap.size ≤ gb262)); have n4_ := Aside0.mk ((by rw [hg]; exact (below_size (by repeat (first | (with_reducible first | exact HB.out | apply below_alloc | apply pw_below_drewN | apply below_drew1 | refine below_set ?_ GE260.out) | exact HB.out))) : w.heap.size ≤ gb262)); have n5_ := Aside0.mk ((by rw [hg]; exact Nat.ne_of_lt (blk_lt (g := gb260) (o := .cells #[.int .i64 a0_0, .int .i64 a0_1, .int .i64 a0_2, .int .i64 a0_3, .slice (some ad261) l0_4.length c0_4] 57 (0, 0)) (by (with_reducible repeat (first | refine blk_drewN ?_ _ | refine blk_drew ?_ | refine blk_alloc ?_ _)); exact BK260.out)) : gb260 ≠ gb262)); have n6_ := Aside0.mk ((by rw [hg]; exact Nat.ne_of_gt (blk_lt (g := gb260) (o := .cells #[.int .i64 a0_0, .int .i64 a0_1, .int .i64 a0_2, .int .i64 a0_3, .slice (some ad261) l0_4.length c0_4] 57 (0, 0)) (by (with_reducible repeat (first | refine blk_drewN ?_ _ | refine blk_drew ?_ | refine blk_alloc ?_ _)); exact BK260.out)) : gb262 ≠ gb260)); clear BK260; clear HB; have BK260 := n0_; have HB := n1_; have BK262 := n2_; have GW262 := n3_; have GE262 := n4_; have NB260_262 := n5_; have NB262_260 := n6_; clear n0_ n1_ n2_ n3_ n4_ n5_ n6_; clear hb hbox hg; have hnb9 := NB262_260.out; have hnc9 := NB260_262.out; have hcz10_0 : w8.cell? ⟨gb262, 0, none⟩ = some (.int .u8 0) := (blk_cell BK262.out 0).trans rfl; have hcz10_1 : w8.cell? ⟨gb262, 1, none⟩ = some (.string (⟨#[]⟩ : ByteArray)) := (blk_cell BK262.out 1).trans rfl; have hfz10_0 := blk_frozen BK262.out 0; have hfz10_1 := blk_frozen BK262.out 1) | ((with_reducible refine gate_callee (f := 72) rfl ?_); refine goesL_ (some 22) rfl rfl Try.func72 (by kernel_rfl) rfl #[.string ((rd_T76 l0_4 x3_1).f1)] rfl (by (try simp only [List.map_toArray, List.map_cons, List.map_nil]); first | done | rfl | (simp only [List.length_drop, List.length_take]; rfl)) ?_; (with_reducible refine (redlineref11_line.calls k1 ((rd_T76 l0_4 x3_1).f1) t263 t264 _ A5.out).mono ?_); rintro e w' ⟨rfl, ⟨nd, rfl⟩⟩; refine ⟨_, rfl, ?_⟩))
      (try simp only [Act.put, List.setIfInBounds_toArray, List.set_cons_zero, List.set_cons_succ])
      go_cut [41] (fun v41 wc => ∃ (kq : Nat) (x41_5 : Bool), v41 = .bool x41_5 ∧ Aside0 (redlineref11_fields.j1 kq x3_1 t264 x41_5 a0_0 a0_1 a0_2 a0_3 l0_4 ((rd_T76 l0_4 x3_1).f0) ((rd_T76 l0_4 x3_1).f1) = some r) ∧ Aside0 (kq ≤ k1) ∧ Aside0 (wc.heap[gb260]? = some (.cells #[.int .i64 a0_0, .int .i64 a0_1, .int .i64 a0_2, .int .i64 a0_3, (.slice (some ad261) l0_4.length c0_4)] 57 (0, 0))) ∧ Aside0 (wc.heap[gb262]? = some (.cells #[.int .u8 ((rd_T76 l0_4 x3_1).f0), .string ((rd_T76 l0_4 x3_1).f1)] 76 (0, 0))) ∧ Aside0 (Below w.heap.size w wc))
      case first =>
       have H := HC6.out
       clear HC6
       by_cases c11 : t263 = true
       ·subst c11
        have H1 : (if ((rd_T76 l0_4 x3_1).f0) = 32 then (redlineref11_fields.j1 k1 x3_1 t264 false a0_0 a0_1 a0_2 a0_3 l0_4 ((rd_T76 l0_4 x3_1).f0) ((rd_T76 l0_4 x3_1).f1)) else (if ((rd_T76 l0_4 x3_1).f0) = 45 then (redlineref11_fields.j1 k1 x3_1 t264 false a0_0 a0_1 a0_2 a0_3 l0_4 ((rd_T76 l0_4 x3_1).f0) ((rd_T76 l0_4 x3_1).f1)) else (redlineref11_fields.j1 k1 x3_1 t264 (((rd_T76 l0_4 x3_1).f0) != 43) a0_0 a0_1 a0_2 a0_3 l0_4 ((rd_T76 l0_4 x3_1).f0) ((rd_T76 l0_4 x3_1).f1)))) = some r := by rw [if_pos rfl] at H; exact H
        clear H
        have H := H1
        clear H1
        by_cases c12 : ((rd_T76 l0_4 x3_1).f0) = 32
        ·rw [if_pos c12] at H
         have c12b0 : (((rd_T76 l0_4 x3_1).f0) == 32) = true := beq_iff_eq.mpr c12
         have c12b1 : (((rd_T76 l0_4 x3_1).f0) != 32) = false := bne_eq_false_iff_eq.mpr c12
         clear c12
         (first | rw [c12b0] | rw [c12b1] | (simp only [i64_w, i32_w]; rw [c12b0]) | skip)
         have H' := Aside0.mk H
         clear H
         have hnb13 := NB262_260.out
         have hnc13 := NB260_262.out
         have hcz14_0 : w8.cell? ⟨gb262, 0, none⟩ = some (.int .u8 0) := (blk_cell BK262.out 0).trans rfl
         have hcz14_1 : w8.cell? ⟨gb262, 1, none⟩ = some (.string (⟨#[]⟩ : ByteArray)) := (blk_cell BK262.out 1).trans rfl
         have hfz14_0 := blk_frozen BK262.out 0
         have hfz14_1 := blk_frozen BK262.out 1
         go_wp2
         go_meet
         case rel => exact ⟨_, (false), (by first | rfl | (simp; done) | (simp [*]; done)), H', ⟨by have := HK1.out; first | omega | exact Nat.le_refl _⟩, ⟨by (with_reducible repeat (first | refine blk_drewN ?_ _ | refine blk_drew ?_ | refine blk_alloc ?_ _)); refine blk_far ?_ NB260_262.out _; (with_reducible repeat (first | refine blk_drewN ?_ _ | refine blk_drew ?_ | refine blk_alloc ?_ _)); refine blk_far ?_ NB260_262.out _; (with_reducible repeat (first | refine blk_drewN ?_ _ | refine blk_drew ?_ | refine blk_alloc ?_ _)); exact BK260.out⟩, ⟨by (with_reducible repeat (first | refine blk_drewN ?_ _ | refine blk_drew ?_ | refine blk_alloc ?_ _)); refine blk_put (cs := #[.int .u8 ((rd_T76 l0_4 x3_1).f0), .string (⟨#[]⟩ : ByteArray)]) ?_ 1 _ rfl; (with_reducible repeat (first | refine blk_drewN ?_ _ | refine blk_drew ?_ | refine blk_alloc ?_ _)); refine blk_put (cs := #[.int .u8 0, .string (⟨#[]⟩ : ByteArray)]) ?_ 0 _ rfl; (with_reducible repeat (first | refine blk_drewN ?_ _ | refine blk_drew ?_ | refine blk_alloc ?_ _)); exact BK262.out⟩, ⟨by repeat (first | (with_reducible first | exact HB.out | apply below_alloc | apply pw_below_drewN | apply below_drew1 | refine below_set ?_ GE260.out | refine below_set ?_ GE262.out) | exact HB.out)⟩⟩
        ·rw [if_neg c12] at H
         have c12b0 : (((rd_T76 l0_4 x3_1).f0) == 32) = false := beq_eq_false_iff_ne.mpr c12
         have c12b1 : (((rd_T76 l0_4 x3_1).f0) != 32) = true := bne_iff_ne.mpr c12
         (first | rw [c12b0] | rw [c12b1] | (simp only [i64_w, i32_w]; rw [c12b0]) | skip)
         by_cases c15 : ((rd_T76 l0_4 x3_1).f0) = 45
         ·rw [if_pos c15] at H
          have c15b0 : (((rd_T76 l0_4 x3_1).f0) == 45) = true := beq_iff_eq.mpr c15
          have c15b1 : (((rd_T76 l0_4 x3_1).f0) != 45) = false := bne_eq_false_iff_eq.mpr c15
          clear c15
          have H' := Aside0.mk H
          clear H
          have hnb16 := NB262_260.out
          have hnc16 := NB260_262.out
          have hcz17_0 : w8.cell? ⟨gb262, 0, none⟩ = some (.int .u8 0) := (blk_cell BK262.out 0).trans rfl
          have hcz17_1 : w8.cell? ⟨gb262, 1, none⟩ = some (.string (⟨#[]⟩ : ByteArray)) := (blk_cell BK262.out 1).trans rfl
          have hfz17_0 := blk_frozen BK262.out 0
          have hfz17_1 := blk_frozen BK262.out 1
          go_wp2
          go_meet
          case rel => exact ⟨_, (false), (by first | rfl | (simp; done) | (simp [*]; done)), H', ⟨by have := HK1.out; first | omega | exact Nat.le_refl _⟩, ⟨by (with_reducible repeat (first | refine blk_drewN ?_ _ | refine blk_drew ?_ | refine blk_alloc ?_ _)); refine blk_far ?_ NB260_262.out _; (with_reducible repeat (first | refine blk_drewN ?_ _ | refine blk_drew ?_ | refine blk_alloc ?_ _)); refine blk_far ?_ NB260_262.out _; (with_reducible repeat (first | refine blk_drewN ?_ _ | refine blk_drew ?_ | refine blk_alloc ?_ _)); exact BK260.out⟩, ⟨by (with_reducible repeat (first | refine blk_drewN ?_ _ | refine blk_drew ?_ | refine blk_alloc ?_ _)); refine blk_put (cs := #[.int .u8 ((rd_T76 l0_4 x3_1).f0), .string (⟨#[]⟩ : ByteArray)]) ?_ 1 _ rfl; (with_reducible repeat (first | refine blk_drewN ?_ _ | refine blk_drew ?_ | refine blk_alloc ?_ _)); refine blk_put (cs := #[.int .u8 0, .string (⟨#[]⟩ : ByteArray)]) ?_ 0 _ rfl; (with_reducible repeat (first | refine blk_drewN ?_ _ | refine blk_drew ?_ | refine blk_alloc ?_ _)); exact BK262.out⟩, ⟨by repeat (first | (with_reducible first | exact HB.out | apply below_alloc | apply pw_below_drewN | apply below_drew1 | refine below_set ?_ GE260.out | refine below_set ?_ GE262.out) | exact HB.out)⟩⟩
         ·rw [if_neg c15] at H
          have c15b0 : (((rd_T76 l0_4 x3_1).f0) == 45) = false := beq_eq_false_iff_ne.mpr c15
          have c15b1 : (((rd_T76 l0_4 x3_1).f0) != 45) = true := bne_iff_ne.mpr c15
          have H' := Aside0.mk H
          clear H
          have hnb18 := NB262_260.out
          have hnc18 := NB260_262.out
          have hcz19_0 : w8.cell? ⟨gb262, 0, none⟩ = some (.int .u8 0) := (blk_cell BK262.out 0).trans rfl
          have hcz19_1 : w8.cell? ⟨gb262, 1, none⟩ = some (.string (⟨#[]⟩ : ByteArray)) := (blk_cell BK262.out 1).trans rfl
          have hfz19_0 := blk_frozen BK262.out 0
          have hfz19_1 := blk_frozen BK262.out 1
          go_wp2
          go_meet
          case rel => exact ⟨_, ((((rd_T76 l0_4 x3_1).f0) != 43)), (by first | rfl | (simp; done) | (simp [*]; done)), H', ⟨by have := HK1.out; first | omega | exact Nat.le_refl _⟩, ⟨by (with_reducible repeat (first | refine blk_drewN ?_ _ | refine blk_drew ?_ | refine blk_alloc ?_ _)); refine blk_far ?_ NB260_262.out _; (with_reducible repeat (first | refine blk_drewN ?_ _ | refine blk_drew ?_ | refine blk_alloc ?_ _)); refine blk_far ?_ NB260_262.out _; (with_reducible repeat (first | refine blk_drewN ?_ _ | refine blk_drew ?_ | refine blk_alloc ?_ _)); exact BK260.out⟩, ⟨by (with_reducible repeat (first | refine blk_drewN ?_ _ | refine blk_drew ?_ | refine blk_alloc ?_ _)); refine blk_put (cs := #[.int .u8 ((rd_T76 l0_4 x3_1).f0), .string (⟨#[]⟩ : ByteArray)]) ?_ 1 _ rfl; (with_reducible repeat (first | refine blk_drewN ?_ _ | refine blk_drew ?_ | refine blk_alloc ?_ _)); refine blk_put (cs := #[.int .u8 0, .string (⟨#[]⟩ : ByteArray)]) ?_ 0 _ rfl; (with_reducible repeat (first | refine blk_drewN ?_ _ | refine blk_drew ?_ | refine blk_alloc ?_ _)); exact BK262.out⟩, ⟨by repeat (first | (with_reducible first | exact HB.out | apply below_alloc | apply pw_below_drewN | apply below_drew1 | refine below_set ?_ GE260.out | refine below_set ?_ GE262.out) | exact HB.out)⟩⟩
       ·replace c11 := Bool.eq_false_iff.mpr c11
        subst c11
        have H1 : (redlineref11_fields.j1 k1 x3_1 t264 true a0_0 a0_1 a0_2 a0_3 l0_4 ((rd_T76 l0_4 x3_1).f0) ((rd_T76 l0_4 x3_1).f1)) = some r := by rw [if_neg (show ¬ (false = true) by decide)] at H; exact H
        clear H
        have H := H1
        clear H1
        have H' := Aside0.mk H
        clear H
        go_wp2
        go_meet
        case rel => exact ⟨_, (true), (by first | rfl | (simp; done) | (simp [*]; done)), H', ⟨by have := HK1.out; first | omega | exact Nat.le_refl _⟩, ⟨by (with_reducible repeat (first | refine blk_drewN ?_ _ | refine blk_drew ?_ | refine blk_alloc ?_ _)); refine blk_far ?_ NB260_262.out _; (with_reducible repeat (first | refine blk_drewN ?_ _ | refine blk_drew ?_ | refine blk_alloc ?_ _)); refine blk_far ?_ NB260_262.out _; (with_reducible repeat (first | refine blk_drewN ?_ _ | refine blk_drew ?_ | refine blk_alloc ?_ _)); exact BK260.out⟩, ⟨by (with_reducible repeat (first | refine blk_drewN ?_ _ | refine blk_drew ?_ | refine blk_alloc ?_ _)); refine blk_put (cs := #[.int .u8 ((rd_T76 l0_4 x3_1).f0), .string (⟨#[]⟩ : ByteArray)]) ?_ 1 _ rfl; (with_reducible repeat (first | refine blk_drewN ?_ _ | refine blk_drew ?_ | refine blk_alloc ?_ _)); refine blk_put (cs := #[.int .u8 0, .string (⟨#[]⟩ : ByteArray)]) ?_ 0 _ rfl; (with_reducible repeat (first | refine blk_drewN ?_ _ | refine blk_drew ?_ | refine blk_alloc ?_ _)); exact BK262.out⟩, ⟨by repeat (first | (with_reducible first | exact HB.out | apply below_alloc | apply pw_below_drewN | apply below_drew1 | refine below_set ?_ GE260.out | refine below_set ?_ GE262.out) | exact HB.out)⟩⟩
      case rest =>
       clear HC6
       try clear c1
       try clear p2
       try clear q2
       try clear hx2
       try clear c3
       try clear c3b0
       try clear c4
       try clear c4b0
       try clear c6
       try clear c7
       try clear c9
       try clear c11
       try clear c12
       try clear c12b0
       try clear c12b1
       try clear c13
       try clear c15
       try clear c15b0
       try clear c15b1
       try clear c16
       try clear c18
       try clear hcz10_0
       try clear hcz10_1
       try clear hcz14_0
       try clear hcz14_1
       try clear hcz17_0
       try clear hcz17_1
       try clear hcz19_0
       try clear hcz19_1
       try clear hcz7_0
       try clear hcz7_1
       try clear hcz7_2
       try clear hcz7_3
       try clear hcz7_4
       try clear hfz10_0
       try clear hfz10_1
       try clear hfz14_0
       try clear hfz14_1
       try clear hfz17_0
       try clear hfz17_1
       try clear hfz19_0
       try clear hfz19_1
       try clear hfz7_0
       try clear hfz7_1
       try clear hfz7_2
       try clear hfz7_3
       try clear hfz7_4
       try clear hx261_0
       try clear hx261_1
       try clear p2
       try clear p261
       try clear q261
       obtain ⟨kq, x41_5, rfl, HA, HJ5, BK260, BK262, HB⟩ := hcut
       cases kq with
       | zero => exact absurd HA.out (by simp [redlineref11_fields.j1])
       | succ kj5 =>
        have H := HA.out
        clear HA
        simp only [redlineref11_fields.j1] at H
        by_cases c20 : x41_5 = true
        ·subst c20
         have H1 : (some false) = some r := by rw [if_pos rfl] at H; exact H
         clear H
         have H := H1
         clear H1
         obtain rfl := Option.some.inj H
         go_wp2
         go_ret
         exact ⟨by first | rfl | (simp [errW_none, errW_some] <;> rfl) | (simp [*, errW_none, errW_some] <;> rfl), by repeat (first | (with_reducible first | exact HB.out | apply below_alloc | apply pw_below_drewN | apply below_drew1 | refine below_set ?_ GE260.out | refine below_set ?_ GE262.out) | exact HB.out)⟩
        ·replace c20 := Bool.eq_false_iff.mpr c20
         subst c20
         have H1 : (if t264 = true then (redlineref11_fields.l0 kj5 (wrap64 (x3_1 + 1)) a0_0 a0_1 a0_2 a0_3 l0_4) else (if ((rd_T76 l0_4 x3_1).f0) = 43 then (if ((rd_T76 l0_4 x3_1).f0) = 45 then (redlineref11_fields.l0 kj5 (wrap64 (x3_1 + 1)) a0_0 a0_1 a0_2 a0_3 l0_4) else ((redlineref11_last.f kj5 a0_0 a0_1 a0_2 a0_3 l0_4 x3_1 43).bind fun t265 => (if t265 = true then (redlineref11_fields.l0 kj5 (wrap64 (x3_1 + 1)) a0_0 a0_1 a0_2 a0_3 l0_4) else (some false)))) else ((redlineref11_last.f kj5 a0_0 a0_1 a0_2 a0_3 l0_4 x3_1 45).bind fun t266 => (if t266 = true then (if ((rd_T76 l0_4 x3_1).f0) = 45 then (redlineref11_fields.l0 kj5 (wrap64 (x3_1 + 1)) a0_0 a0_1 a0_2 a0_3 l0_4) else ((redlineref11_last.f kj5 a0_0 a0_1 a0_2 a0_3 l0_4 x3_1 43).bind fun t267 => (if t267 = true then (redlineref11_fields.l0 kj5 (wrap64 (x3_1 + 1)) a0_0 a0_1 a0_2 a0_3 l0_4) else (some false)))) else (some false))))) = some r := by rw [if_neg (show ¬ (false = true) by decide)] at H; exact H
         clear H
         have H := H1
         clear H1
         by_cases c21 : t264 = true
         ·subst c21
          have H1 : (redlineref11_fields.l0 kj5 (wrap64 (x3_1 + 1)) a0_0 a0_1 a0_2 a0_3 l0_4) = some r := by rw [if_pos rfl] at H; exact H
          clear H
          have H := H1
          clear H1
          have H' := Aside0.mk H
          clear H
          go_wp2
          go_roundg kj5
          case measure => have := HK1.out; have := HJ5.out; omega
          case rel => exact ⟨(wrap64 (x3_1 + 1)), (by first | rfl | (simp; done) | (simp [*]; done)), H', ⟨by have := HK1.out; have := HJ5.out; omega⟩, ⟨by (with_reducible repeat (first | refine blk_drewN ?_ _ | refine blk_drew ?_ | refine blk_alloc ?_ _)); exact BK260.out⟩, ⟨by repeat (first | (with_reducible first | exact HB.out | apply below_alloc | apply pw_below_drewN | apply below_drew1 | refine below_set ?_ GE260.out | refine below_set ?_ GE262.out) | exact HB.out)⟩⟩
         ·replace c21 := Bool.eq_false_iff.mpr c21
          subst c21
          have H1 : (if ((rd_T76 l0_4 x3_1).f0) = 43 then (if ((rd_T76 l0_4 x3_1).f0) = 45 then (redlineref11_fields.l0 kj5 (wrap64 (x3_1 + 1)) a0_0 a0_1 a0_2 a0_3 l0_4) else ((redlineref11_last.f kj5 a0_0 a0_1 a0_2 a0_3 l0_4 x3_1 43).bind fun t265 => (if t265 = true then (redlineref11_fields.l0 kj5 (wrap64 (x3_1 + 1)) a0_0 a0_1 a0_2 a0_3 l0_4) else (some false)))) else ((redlineref11_last.f kj5 a0_0 a0_1 a0_2 a0_3 l0_4 x3_1 45).bind fun t266 => (if t266 = true then (if ((rd_T76 l0_4 x3_1).f0) = 45 then (redlineref11_fields.l0 kj5 (wrap64 (x3_1 + 1)) a0_0 a0_1 a0_2 a0_3 l0_4) else ((redlineref11_last.f kj5 a0_0 a0_1 a0_2 a0_3 l0_4 x3_1 43).bind fun t267 => (if t267 = true then (redlineref11_fields.l0 kj5 (wrap64 (x3_1 + 1)) a0_0 a0_1 a0_2 a0_3 l0_4) else (some false)))) else (some false)))) = some r := by rw [if_neg (show ¬ (false = true) by decide)] at H; exact H
          clear H
          have H := H1
          clear H1
          by_cases c22 : ((rd_T76 l0_4 x3_1).f0) = 43
          ·rw [if_pos c22] at H
           have c22b0 : (((rd_T76 l0_4 x3_1).f0) == 43) = true := beq_iff_eq.mpr c22
           have c22b1 : (((rd_T76 l0_4 x3_1).f0) != 43) = false := bne_eq_false_iff_eq.mpr c22
           clear c22
           by_cases c23 : ((rd_T76 l0_4 x3_1).f0) = 45
           ·rw [if_pos c23] at H
            have c23b0 : (((rd_T76 l0_4 x3_1).f0) == 45) = true := beq_iff_eq.mpr c23
            have c23b1 : (((rd_T76 l0_4 x3_1).f0) != 45) = false := bne_eq_false_iff_eq.mpr c23
            clear c23
            have H' := Aside0.mk H
            clear H
            have hnb24 := NB262_260.out
            have hnc24 := NB260_262.out
            have hcz25_0 : wc.cell? ⟨gb262, 0, none⟩ = some (.int .u8 ((rd_T76 l0_4 x3_1).f0)) := (blk_cell BK262.out 0).trans rfl
            have hcz25_1 : wc.cell? ⟨gb262, 1, none⟩ = some (.string ((rd_T76 l0_4 x3_1).f1)) := (blk_cell BK262.out 1).trans rfl
            have hfz25_0 := blk_frozen BK262.out 0
            have hfz25_1 := blk_frozen BK262.out 1
            go_wp2
            go_roundg kj5
            case measure => have := HK1.out; have := HJ5.out; omega
            case rel => exact ⟨(wrap64 (x3_1 + 1)), (by first | rfl | (simp; done) | (simp [*]; done)), H', ⟨by have := HK1.out; have := HJ5.out; omega⟩, ⟨by (with_reducible repeat (first | refine blk_drewN ?_ _ | refine blk_drew ?_ | refine blk_alloc ?_ _)); exact BK260.out⟩, ⟨by repeat (first | (with_reducible first | exact HB.out | apply below_alloc | apply pw_below_drewN | apply below_drew1 | refine below_set ?_ GE260.out | refine below_set ?_ GE262.out) | exact HB.out)⟩⟩
           ·rw [if_neg c23] at H
            have c23b0 : (((rd_T76 l0_4 x3_1).f0) == 45) = false := beq_eq_false_iff_ne.mpr c23
            have c23b1 : (((rd_T76 l0_4 x3_1).f0) != 45) = true := bne_iff_ne.mpr c23
            replace H := Option.bind_eq_some_iff.mp H
            obtain ⟨t265, A260, H⟩ := H
            replace H : (if t265 = true then (redlineref11_fields.l0 kj5 (wrap64 (x3_1 + 1)) a0_0 a0_1 a0_2 a0_3 l0_4) else (some false)) = some r := H
            have A26 := Aside0.mk A260
            clear A260
            by_cases c27 : t265 = true
            ·subst c27
             have H1 : (redlineref11_fields.l0 kj5 (wrap64 (x3_1 + 1)) a0_0 a0_1 a0_2 a0_3 l0_4) = some r := by rw [if_pos rfl] at H; exact H
             clear H
             have H := H1
             clear H1
             have H' := Aside0.mk H
             clear H
             have hnb28 := NB262_260.out
             have hnc28 := NB260_262.out
             have hcz29_0 : wc.cell? ⟨gb262, 0, none⟩ = some (.int .u8 ((rd_T76 l0_4 x3_1).f0)) := (blk_cell BK262.out 0).trans rfl
             have hcz29_1 : wc.cell? ⟨gb262, 1, none⟩ = some (.string ((rd_T76 l0_4 x3_1).f1)) := (blk_cell BK262.out 1).trans rfl
             have hfz29_0 := blk_frozen BK262.out 0
             have hfz29_1 := blk_frozen BK262.out 1
             have hcz30_0 : wc.cell? ⟨gb260, 0, none⟩ = some (.int .i64 a0_0) := (blk_cell BK260.out 0).trans rfl
             have hcz30_1 : wc.cell? ⟨gb260, 1, none⟩ = some (.int .i64 a0_1) := (blk_cell BK260.out 1).trans rfl
             have hcz30_2 : wc.cell? ⟨gb260, 2, none⟩ = some (.int .i64 a0_2) := (blk_cell BK260.out 2).trans rfl
             have hcz30_3 : wc.cell? ⟨gb260, 3, none⟩ = some (.int .i64 a0_3) := (blk_cell BK260.out 3).trans rfl
             have hcz30_4 : wc.cell? ⟨gb260, 4, none⟩ = some (.slice (some ad261) l0_4.length c0_4) := (blk_cell BK260.out 4).trans rfl
             have hfz30_0 := blk_frozen BK260.out 0
             have hfz30_1 := blk_frozen BK260.out 1
             have hfz30_2 := blk_frozen BK260.out 2
             have hfz30_3 := blk_frozen BK260.out 3
             have hfz30_4 := blk_frozen BK260.out 4
             go_wp2_with (first | (go_at_call 73; (with_reducible refine (redlineref11_last.calls kj5 a0_0 a0_1 a0_2 a0_3 _ _ l0_4 x3_1 43 true _ ?side1 ?side2 A26.out).mono ?_); (case side1 => repeat (first | exact (Kd.C_below HR0_4.out HB.out) | (with_reducible refine Kd.C_alloc ?_ _) | (with_reducible refine Kd.C_drewN ?_ _) | (with_reducible refine Kd.C_drew ?_))); (case side2 => exact HC0_4.out); rintro e w31 ⟨rfl, hb⟩; have n0_ := Aside0.mk (blk_below (g := gb260) (o := .cells #[.int .i64 a0_0, .int .i64 a0_1, .int .i64 a0_2, .int .i64 a0_3, .slice (some ad261) l0_4.length c0_4] 57 (0, 0)) (by (with_reducible repeat (first | refine blk_drewN ?_ _ | refine blk_drew ?_ | refine blk_alloc ?_ _)); exact BK260.out) hb); have n1_ := Aside0.mk (blk_below (g := gb262) (o := .cells #[.int .u8 ((rd_T76 l0_4 x3_1).f0), .string ((rd_T76 l0_4 x3_1).f1)] 76 (0, 0)) (by (with_reducible repeat (first | refine blk_drewN ?_ _ | refine blk_drew ?_ | refine blk_alloc ?_ _)); exact BK262.out) hb); have n2_ := Aside0.mk (below_step (by repeat (first | (with_reducible first | exact HB.out | apply below_alloc | apply pw_below_drewN | apply below_drew1 | refine below_set ?_ GE260.out | refine below_set ?_ GE262.out) | exact HB.out)) hb); clear BK260; clear BK262; clear HB; have BK260 := n0_; have BK262 := n1_; have HB := n2_; clear n0_ n1_ n2_; (try clear hb); (try clear hb2); (try clear hk); (try clear hi)))
             go_roundg kj5
             case measure => have := HK1.out; have := HJ5.out; omega
             case rel => exact ⟨(wrap64 (x3_1 + 1)), (by first | rfl | (simp; done) | (simp [*]; done)), H', ⟨by have := HK1.out; have := HJ5.out; omega⟩, ⟨by (with_reducible repeat (first | refine blk_drewN ?_ _ | refine blk_drew ?_ | refine blk_alloc ?_ _)); exact BK260.out⟩, ⟨by repeat (first | (with_reducible first | exact HB.out | apply below_alloc | apply pw_below_drewN | apply below_drew1 | refine below_set ?_ GE260.out | refine below_set ?_ GE262.out) | exact HB.out)⟩⟩
            ·replace c27 := Bool.eq_false_iff.mpr c27
             subst c27
             have H1 : (some false) = some r := by rw [if_neg (show ¬ (false = true) by decide)] at H; exact H
             clear H
             have H := H1
             clear H1
             obtain rfl := Option.some.inj H
             have hnb32 := NB262_260.out
             have hnc32 := NB260_262.out
             have hcz33_0 : wc.cell? ⟨gb262, 0, none⟩ = some (.int .u8 ((rd_T76 l0_4 x3_1).f0)) := (blk_cell BK262.out 0).trans rfl
             have hcz33_1 : wc.cell? ⟨gb262, 1, none⟩ = some (.string ((rd_T76 l0_4 x3_1).f1)) := (blk_cell BK262.out 1).trans rfl
             have hfz33_0 := blk_frozen BK262.out 0
             have hfz33_1 := blk_frozen BK262.out 1
             have hcz34_0 : wc.cell? ⟨gb260, 0, none⟩ = some (.int .i64 a0_0) := (blk_cell BK260.out 0).trans rfl
             have hcz34_1 : wc.cell? ⟨gb260, 1, none⟩ = some (.int .i64 a0_1) := (blk_cell BK260.out 1).trans rfl
             have hcz34_2 : wc.cell? ⟨gb260, 2, none⟩ = some (.int .i64 a0_2) := (blk_cell BK260.out 2).trans rfl
             have hcz34_3 : wc.cell? ⟨gb260, 3, none⟩ = some (.int .i64 a0_3) := (blk_cell BK260.out 3).trans rfl
             have hcz34_4 : wc.cell? ⟨gb260, 4, none⟩ = some (.slice (some ad261) l0_4.length c0_4) := (blk_cell BK260.out 4).trans rfl
             have hfz34_0 := blk_frozen BK260.out 0
             have hfz34_1 := blk_frozen BK260.out 1
             have hfz34_2 := blk_frozen BK260.out 2
             have hfz34_3 := blk_frozen BK260.out 3
             have hfz34_4 := blk_frozen BK260.out 4
             go_wp2_with (first | (go_at_call 73; (with_reducible refine (redlineref11_last.calls kj5 a0_0 a0_1 a0_2 a0_3 _ _ l0_4 x3_1 43 false _ ?side1 ?side2 A26.out).mono ?_); (case side1 => repeat (first | exact (Kd.C_below HR0_4.out HB.out) | (with_reducible refine Kd.C_alloc ?_ _) | (with_reducible refine Kd.C_drewN ?_ _) | (with_reducible refine Kd.C_drew ?_))); (case side2 => exact HC0_4.out); rintro e w35 ⟨rfl, hb⟩; have n0_ := Aside0.mk (blk_below (g := gb260) (o := .cells #[.int .i64 a0_0, .int .i64 a0_1, .int .i64 a0_2, .int .i64 a0_3, .slice (some ad261) l0_4.length c0_4] 57 (0, 0)) (by (with_reducible repeat (first | refine blk_drewN ?_ _ | refine blk_drew ?_ | refine blk_alloc ?_ _)); exact BK260.out) hb); have n1_ := Aside0.mk (blk_below (g := gb262) (o := .cells #[.int .u8 ((rd_T76 l0_4 x3_1).f0), .string ((rd_T76 l0_4 x3_1).f1)] 76 (0, 0)) (by (with_reducible repeat (first | refine blk_drewN ?_ _ | refine blk_drew ?_ | refine blk_alloc ?_ _)); exact BK262.out) hb); have n2_ := Aside0.mk (below_step (by repeat (first | (with_reducible first | exact HB.out | apply below_alloc | apply pw_below_drewN | apply below_drew1 | refine below_set ?_ GE260.out | refine below_set ?_ GE262.out) | exact HB.out)) hb); clear BK260; clear BK262; clear HB; have BK260 := n0_; have BK262 := n1_; have HB := n2_; clear n0_ n1_ n2_; (try clear hb); (try clear hb2); (try clear hk); (try clear hi)))
             go_ret
             exact ⟨by first | rfl | (simp [errW_none, errW_some] <;> rfl) | (simp [*, errW_none, errW_some] <;> rfl), by repeat (first | (with_reducible first | exact HB.out | apply below_alloc | apply pw_below_drewN | apply below_drew1 | refine below_set ?_ GE260.out | refine below_set ?_ GE262.out) | exact HB.out)⟩
          ·rw [if_neg c22] at H
           have c22b0 : (((rd_T76 l0_4 x3_1).f0) == 43) = false := beq_eq_false_iff_ne.mpr c22
           have c22b1 : (((rd_T76 l0_4 x3_1).f0) != 43) = true := bne_iff_ne.mpr c22
           replace H := Option.bind_eq_some_iff.mp H
           obtain ⟨t266, A360, H⟩ := H
           replace H : (if t266 = true then (if ((rd_T76 l0_4 x3_1).f0) = 45 then (redlineref11_fields.l0 kj5 (wrap64 (x3_1 + 1)) a0_0 a0_1 a0_2 a0_3 l0_4) else ((redlineref11_last.f kj5 a0_0 a0_1 a0_2 a0_3 l0_4 x3_1 43).bind fun t267 => (if t267 = true then (redlineref11_fields.l0 kj5 (wrap64 (x3_1 + 1)) a0_0 a0_1 a0_2 a0_3 l0_4) else (some false)))) else (some false)) = some r := H
           have A36 := Aside0.mk A360
           clear A360
           by_cases c37 : t266 = true
           ·subst c37
            have H1 : (if ((rd_T76 l0_4 x3_1).f0) = 45 then (redlineref11_fields.l0 kj5 (wrap64 (x3_1 + 1)) a0_0 a0_1 a0_2 a0_3 l0_4) else ((redlineref11_last.f kj5 a0_0 a0_1 a0_2 a0_3 l0_4 x3_1 43).bind fun t267 => (if t267 = true then (redlineref11_fields.l0 kj5 (wrap64 (x3_1 + 1)) a0_0 a0_1 a0_2 a0_3 l0_4) else (some false)))) = some r := by rw [if_pos rfl] at H; exact H
            clear H
            have H := H1
            clear H1
            by_cases c38 : ((rd_T76 l0_4 x3_1).f0) = 45
            ·rw [if_pos c38] at H
             have c38b0 : (((rd_T76 l0_4 x3_1).f0) == 45) = true := beq_iff_eq.mpr c38
             have c38b1 : (((rd_T76 l0_4 x3_1).f0) != 45) = false := bne_eq_false_iff_eq.mpr c38
             clear c38
             have H' := Aside0.mk H
             clear H
             have hnb39 := NB262_260.out
             have hnc39 := NB260_262.out
             have hcz40_0 : wc.cell? ⟨gb262, 0, none⟩ = some (.int .u8 ((rd_T76 l0_4 x3_1).f0)) := (blk_cell BK262.out 0).trans rfl
             have hcz40_1 : wc.cell? ⟨gb262, 1, none⟩ = some (.string ((rd_T76 l0_4 x3_1).f1)) := (blk_cell BK262.out 1).trans rfl
             have hfz40_0 := blk_frozen BK262.out 0
             have hfz40_1 := blk_frozen BK262.out 1
             have hcz41_0 : wc.cell? ⟨gb260, 0, none⟩ = some (.int .i64 a0_0) := (blk_cell BK260.out 0).trans rfl
             have hcz41_1 : wc.cell? ⟨gb260, 1, none⟩ = some (.int .i64 a0_1) := (blk_cell BK260.out 1).trans rfl
             have hcz41_2 : wc.cell? ⟨gb260, 2, none⟩ = some (.int .i64 a0_2) := (blk_cell BK260.out 2).trans rfl
             have hcz41_3 : wc.cell? ⟨gb260, 3, none⟩ = some (.int .i64 a0_3) := (blk_cell BK260.out 3).trans rfl
             have hcz41_4 : wc.cell? ⟨gb260, 4, none⟩ = some (.slice (some ad261) l0_4.length c0_4) := (blk_cell BK260.out 4).trans rfl
             have hfz41_0 := blk_frozen BK260.out 0
             have hfz41_1 := blk_frozen BK260.out 1
             have hfz41_2 := blk_frozen BK260.out 2
             have hfz41_3 := blk_frozen BK260.out 3
             have hfz41_4 := blk_frozen BK260.out 4
             go_wp2_with (first | (go_at_call 73; (with_reducible refine (redlineref11_last.calls kj5 a0_0 a0_1 a0_2 a0_3 _ _ l0_4 x3_1 45 true _ ?side1 ?side2 A36.out).mono ?_); (case side1 => repeat (first | exact (Kd.C_below HR0_4.out HB.out) | (with_reducible refine Kd.C_alloc ?_ _) | (with_reducible refine Kd.C_drewN ?_ _) | (with_reducible refine Kd.C_drew ?_))); (case side2 => exact HC0_4.out); rintro e w42 ⟨rfl, hb⟩; have n0_ := Aside0.mk (blk_below (g := gb260) (o := .cells #[.int .i64 a0_0, .int .i64 a0_1, .int .i64 a0_2, .int .i64 a0_3, .slice (some ad261) l0_4.length c0_4] 57 (0, 0)) (by (with_reducible repeat (first | refine blk_drewN ?_ _ | refine blk_drew ?_ | refine blk_alloc ?_ _)); exact BK260.out) hb); have n1_ := Aside0.mk (blk_below (g := gb262) (o := .cells #[.int .u8 ((rd_T76 l0_4 x3_1).f0), .string ((rd_T76 l0_4 x3_1).f1)] 76 (0, 0)) (by (with_reducible repeat (first | refine blk_drewN ?_ _ | refine blk_drew ?_ | refine blk_alloc ?_ _)); exact BK262.out) hb); have n2_ := Aside0.mk (below_step (by repeat (first | (with_reducible first | exact HB.out | apply below_alloc | apply pw_below_drewN | apply below_drew1 | refine below_set ?_ GE260.out | refine below_set ?_ GE262.out) | exact HB.out)) hb); clear BK260; clear BK262; clear HB; have BK260 := n0_; have BK262 := n1_; have HB := n2_; clear n0_ n1_ n2_; (try clear hb); (try clear hb2); (try clear hk); (try clear hi); have hcz43_0 : w42.cell? ⟨gb262, 0, none⟩ = some (.int .u8 ((rd_T76 l0_4 x3_1).f0)) := (blk_cell BK262.out 0).trans rfl; have hcz43_1 : w42.cell? ⟨gb262, 1, none⟩ = some (.string ((rd_T76 l0_4 x3_1).f1)) := (blk_cell BK262.out 1).trans rfl; have hfz43_0 := blk_frozen BK262.out 0; have hfz43_1 := blk_frozen BK262.out 1))
             go_roundg kj5
             case measure => have := HK1.out; have := HJ5.out; omega
             case rel => exact ⟨(wrap64 (x3_1 + 1)), (by first | rfl | (simp; done) | (simp [*]; done)), H', ⟨by have := HK1.out; have := HJ5.out; omega⟩, ⟨by (with_reducible repeat (first | refine blk_drewN ?_ _ | refine blk_drew ?_ | refine blk_alloc ?_ _)); exact BK260.out⟩, ⟨by repeat (first | (with_reducible first | exact HB.out | apply below_alloc | apply pw_below_drewN | apply below_drew1 | refine below_set ?_ GE260.out | refine below_set ?_ GE262.out) | exact HB.out)⟩⟩
            ·rw [if_neg c38] at H
             have c38b0 : (((rd_T76 l0_4 x3_1).f0) == 45) = false := beq_eq_false_iff_ne.mpr c38
             have c38b1 : (((rd_T76 l0_4 x3_1).f0) != 45) = true := bne_iff_ne.mpr c38
             replace H := Option.bind_eq_some_iff.mp H
             obtain ⟨t267, A440, H⟩ := H
             replace H : (if t267 = true then (redlineref11_fields.l0 kj5 (wrap64 (x3_1 + 1)) a0_0 a0_1 a0_2 a0_3 l0_4) else (some false)) = some r := H
             have A44 := Aside0.mk A440
             clear A440
             by_cases c45 : t267 = true
             ·subst c45
              have H1 : (redlineref11_fields.l0 kj5 (wrap64 (x3_1 + 1)) a0_0 a0_1 a0_2 a0_3 l0_4) = some r := by rw [if_pos rfl] at H; exact H
              clear H
              have H := H1
              clear H1
              have H' := Aside0.mk H
              clear H
              have hnb46 := NB262_260.out
              have hnc46 := NB260_262.out
              have hcz47_0 : wc.cell? ⟨gb262, 0, none⟩ = some (.int .u8 ((rd_T76 l0_4 x3_1).f0)) := (blk_cell BK262.out 0).trans rfl
              have hcz47_1 : wc.cell? ⟨gb262, 1, none⟩ = some (.string ((rd_T76 l0_4 x3_1).f1)) := (blk_cell BK262.out 1).trans rfl
              have hfz47_0 := blk_frozen BK262.out 0
              have hfz47_1 := blk_frozen BK262.out 1
              have hcz48_0 : wc.cell? ⟨gb260, 0, none⟩ = some (.int .i64 a0_0) := (blk_cell BK260.out 0).trans rfl
              have hcz48_1 : wc.cell? ⟨gb260, 1, none⟩ = some (.int .i64 a0_1) := (blk_cell BK260.out 1).trans rfl
              have hcz48_2 : wc.cell? ⟨gb260, 2, none⟩ = some (.int .i64 a0_2) := (blk_cell BK260.out 2).trans rfl
              have hcz48_3 : wc.cell? ⟨gb260, 3, none⟩ = some (.int .i64 a0_3) := (blk_cell BK260.out 3).trans rfl
              have hcz48_4 : wc.cell? ⟨gb260, 4, none⟩ = some (.slice (some ad261) l0_4.length c0_4) := (blk_cell BK260.out 4).trans rfl
              have hfz48_0 := blk_frozen BK260.out 0
              have hfz48_1 := blk_frozen BK260.out 1
              have hfz48_2 := blk_frozen BK260.out 2
              have hfz48_3 := blk_frozen BK260.out 3
              have hfz48_4 := blk_frozen BK260.out 4
              go_wp2_with (first | (go_at_call 73; (with_reducible refine (redlineref11_last.calls kj5 a0_0 a0_1 a0_2 a0_3 _ _ l0_4 x3_1 45 true _ ?side1 ?side2 A36.out).mono ?_); (case side1 => repeat (first | exact (Kd.C_below HR0_4.out HB.out) | (with_reducible refine Kd.C_alloc ?_ _) | (with_reducible refine Kd.C_drewN ?_ _) | (with_reducible refine Kd.C_drew ?_))); (case side2 => exact HC0_4.out); rintro e w49 ⟨rfl, hb⟩; have n0_ := Aside0.mk (blk_below (g := gb260) (o := .cells #[.int .i64 a0_0, .int .i64 a0_1, .int .i64 a0_2, .int .i64 a0_3, .slice (some ad261) l0_4.length c0_4] 57 (0, 0)) (by (with_reducible repeat (first | refine blk_drewN ?_ _ | refine blk_drew ?_ | refine blk_alloc ?_ _)); exact BK260.out) hb); have n1_ := Aside0.mk (blk_below (g := gb262) (o := .cells #[.int .u8 ((rd_T76 l0_4 x3_1).f0), .string ((rd_T76 l0_4 x3_1).f1)] 76 (0, 0)) (by (with_reducible repeat (first | refine blk_drewN ?_ _ | refine blk_drew ?_ | refine blk_alloc ?_ _)); exact BK262.out) hb); have n2_ := Aside0.mk (below_step (by repeat (first | (with_reducible first | exact HB.out | apply below_alloc | apply pw_below_drewN | apply below_drew1 | refine below_set ?_ GE260.out | refine below_set ?_ GE262.out) | exact HB.out)) hb); clear BK260; clear BK262; clear HB; have BK260 := n0_; have BK262 := n1_; have HB := n2_; clear n0_ n1_ n2_; (try clear hb); (try clear hb2); (try clear hk); (try clear hi); have hcz50_0 : w49.cell? ⟨gb262, 0, none⟩ = some (.int .u8 ((rd_T76 l0_4 x3_1).f0)) := (blk_cell BK262.out 0).trans rfl; have hcz50_1 : w49.cell? ⟨gb262, 1, none⟩ = some (.string ((rd_T76 l0_4 x3_1).f1)) := (blk_cell BK262.out 1).trans rfl; have hfz50_0 := blk_frozen BK262.out 0; have hfz50_1 := blk_frozen BK262.out 1; have hcz51_0 : w49.cell? ⟨gb260, 0, none⟩ = some (.int .i64 a0_0) := (blk_cell BK260.out 0).trans rfl; have hcz51_1 : w49.cell? ⟨gb260, 1, none⟩ = some (.int .i64 a0_1) := (blk_cell BK260.out 1).trans rfl; have hcz51_2 : w49.cell? ⟨gb260, 2, none⟩ = some (.int .i64 a0_2) := (blk_cell BK260.out 2).trans rfl; have hcz51_3 : w49.cell? ⟨gb260, 3, none⟩ = some (.int .i64 a0_3) := (blk_cell BK260.out 3).trans rfl; have hcz51_4 : w49.cell? ⟨gb260, 4, none⟩ = some (.slice (some ad261) l0_4.length c0_4) := (blk_cell BK260.out 4).trans rfl; have hfz51_0 := blk_frozen BK260.out 0; have hfz51_1 := blk_frozen BK260.out 1; have hfz51_2 := blk_frozen BK260.out 2; have hfz51_3 := blk_frozen BK260.out 3; have hfz51_4 := blk_frozen BK260.out 4) | (go_at_call 73; (with_reducible refine (redlineref11_last.calls kj5 a0_0 a0_1 a0_2 a0_3 _ _ l0_4 x3_1 43 true _ ?side1 ?side2 A44.out).mono ?_); (case side1 => repeat (first | exact (Kd.C_below HR0_4.out HB.out) | (with_reducible refine Kd.C_alloc ?_ _) | (with_reducible refine Kd.C_drewN ?_ _) | (with_reducible refine Kd.C_drew ?_))); (case side2 => exact HC0_4.out); rintro e w52 ⟨rfl, hb⟩; have n0_ := Aside0.mk (blk_below (g := gb260) (o := .cells #[.int .i64 a0_0, .int .i64 a0_1, .int .i64 a0_2, .int .i64 a0_3, .slice (some ad261) l0_4.length c0_4] 57 (0, 0)) (by (with_reducible repeat (first | refine blk_drewN ?_ _ | refine blk_drew ?_ | refine blk_alloc ?_ _)); exact BK260.out) hb); have n1_ := Aside0.mk (blk_below (g := gb262) (o := .cells #[.int .u8 ((rd_T76 l0_4 x3_1).f0), .string ((rd_T76 l0_4 x3_1).f1)] 76 (0, 0)) (by (with_reducible repeat (first | refine blk_drewN ?_ _ | refine blk_drew ?_ | refine blk_alloc ?_ _)); exact BK262.out) hb); have n2_ := Aside0.mk (below_step (by repeat (first | (with_reducible first | exact HB.out | apply below_alloc | apply pw_below_drewN | apply below_drew1 | refine below_set ?_ GE260.out | refine below_set ?_ GE262.out) | exact HB.out)) hb); clear BK260; clear BK262; clear HB; have BK260 := n0_; have BK262 := n1_; have HB := n2_; clear n0_ n1_ n2_; (try clear hb); (try clear hb2); (try clear hk); (try clear hi)))
              go_roundg kj5
              case measure => have := HK1.out; have := HJ5.out; omega
              case rel => exact ⟨(wrap64 (x3_1 + 1)), (by first | rfl | (simp; done) | (simp [*]; done)), H', ⟨by have := HK1.out; have := HJ5.out; omega⟩, ⟨by (with_reducible repeat (first | refine blk_drewN ?_ _ | refine blk_drew ?_ | refine blk_alloc ?_ _)); exact BK260.out⟩, ⟨by repeat (first | (with_reducible first | exact HB.out | apply below_alloc | apply pw_below_drewN | apply below_drew1 | refine below_set ?_ GE260.out | refine below_set ?_ GE262.out) | exact HB.out)⟩⟩
             ·replace c45 := Bool.eq_false_iff.mpr c45
              subst c45
              have H1 : (some false) = some r := by rw [if_neg (show ¬ (false = true) by decide)] at H; exact H
              clear H
              have H := H1
              clear H1
              obtain rfl := Option.some.inj H
              have hnb53 := NB262_260.out
              have hnc53 := NB260_262.out
              have hcz54_0 : wc.cell? ⟨gb262, 0, none⟩ = some (.int .u8 ((rd_T76 l0_4 x3_1).f0)) := (blk_cell BK262.out 0).trans rfl
              have hcz54_1 : wc.cell? ⟨gb262, 1, none⟩ = some (.string ((rd_T76 l0_4 x3_1).f1)) := (blk_cell BK262.out 1).trans rfl
              have hfz54_0 := blk_frozen BK262.out 0
              have hfz54_1 := blk_frozen BK262.out 1
              have hcz55_0 : wc.cell? ⟨gb260, 0, none⟩ = some (.int .i64 a0_0) := (blk_cell BK260.out 0).trans rfl
              have hcz55_1 : wc.cell? ⟨gb260, 1, none⟩ = some (.int .i64 a0_1) := (blk_cell BK260.out 1).trans rfl
              have hcz55_2 : wc.cell? ⟨gb260, 2, none⟩ = some (.int .i64 a0_2) := (blk_cell BK260.out 2).trans rfl
              have hcz55_3 : wc.cell? ⟨gb260, 3, none⟩ = some (.int .i64 a0_3) := (blk_cell BK260.out 3).trans rfl
              have hcz55_4 : wc.cell? ⟨gb260, 4, none⟩ = some (.slice (some ad261) l0_4.length c0_4) := (blk_cell BK260.out 4).trans rfl
              have hfz55_0 := blk_frozen BK260.out 0
              have hfz55_1 := blk_frozen BK260.out 1
              have hfz55_2 := blk_frozen BK260.out 2
              have hfz55_3 := blk_frozen BK260.out 3
              have hfz55_4 := blk_frozen BK260.out 4
              go_wp2_with (first | (go_at_call 73; (with_reducible refine (redlineref11_last.calls kj5 a0_0 a0_1 a0_2 a0_3 _ _ l0_4 x3_1 45 true _ ?side1 ?side2 A36.out).mono ?_); (case side1 => repeat (first | exact (Kd.C_below HR0_4.out HB.out) | (with_reducible refine Kd.C_alloc ?_ _) | (with_reducible refine Kd.C_drewN ?_ _) | (with_reducible refine Kd.C_drew ?_))); (case side2 => exact HC0_4.out); rintro e w56 ⟨rfl, hb⟩; have n0_ := Aside0.mk (blk_below (g := gb260) (o := .cells #[.int .i64 a0_0, .int .i64 a0_1, .int .i64 a0_2, .int .i64 a0_3, .slice (some ad261) l0_4.length c0_4] 57 (0, 0)) (by (with_reducible repeat (first | refine blk_drewN ?_ _ | refine blk_drew ?_ | refine blk_alloc ?_ _)); exact BK260.out) hb); have n1_ := Aside0.mk (blk_below (g := gb262) (o := .cells #[.int .u8 ((rd_T76 l0_4 x3_1).f0), .string ((rd_T76 l0_4 x3_1).f1)] 76 (0, 0)) (by (with_reducible repeat (first | refine blk_drewN ?_ _ | refine blk_drew ?_ | refine blk_alloc ?_ _)); exact BK262.out) hb); have n2_ := Aside0.mk (below_step (by repeat (first | (with_reducible first | exact HB.out | apply below_alloc | apply pw_below_drewN | apply below_drew1 | refine below_set ?_ GE260.out | refine below_set ?_ GE262.out) | exact HB.out)) hb); clear BK260; clear BK262; clear HB; have BK260 := n0_; have BK262 := n1_; have HB := n2_; clear n0_ n1_ n2_; (try clear hb); (try clear hb2); (try clear hk); (try clear hi); have hcz57_0 : w56.cell? ⟨gb262, 0, none⟩ = some (.int .u8 ((rd_T76 l0_4 x3_1).f0)) := (blk_cell BK262.out 0).trans rfl; have hcz57_1 : w56.cell? ⟨gb262, 1, none⟩ = some (.string ((rd_T76 l0_4 x3_1).f1)) := (blk_cell BK262.out 1).trans rfl; have hfz57_0 := blk_frozen BK262.out 0; have hfz57_1 := blk_frozen BK262.out 1; have hcz58_0 : w56.cell? ⟨gb260, 0, none⟩ = some (.int .i64 a0_0) := (blk_cell BK260.out 0).trans rfl; have hcz58_1 : w56.cell? ⟨gb260, 1, none⟩ = some (.int .i64 a0_1) := (blk_cell BK260.out 1).trans rfl; have hcz58_2 : w56.cell? ⟨gb260, 2, none⟩ = some (.int .i64 a0_2) := (blk_cell BK260.out 2).trans rfl; have hcz58_3 : w56.cell? ⟨gb260, 3, none⟩ = some (.int .i64 a0_3) := (blk_cell BK260.out 3).trans rfl; have hcz58_4 : w56.cell? ⟨gb260, 4, none⟩ = some (.slice (some ad261) l0_4.length c0_4) := (blk_cell BK260.out 4).trans rfl; have hfz58_0 := blk_frozen BK260.out 0; have hfz58_1 := blk_frozen BK260.out 1; have hfz58_2 := blk_frozen BK260.out 2; have hfz58_3 := blk_frozen BK260.out 3; have hfz58_4 := blk_frozen BK260.out 4) | (go_at_call 73; (with_reducible refine (redlineref11_last.calls kj5 a0_0 a0_1 a0_2 a0_3 _ _ l0_4 x3_1 43 false _ ?side1 ?side2 A44.out).mono ?_); (case side1 => repeat (first | exact (Kd.C_below HR0_4.out HB.out) | (with_reducible refine Kd.C_alloc ?_ _) | (with_reducible refine Kd.C_drewN ?_ _) | (with_reducible refine Kd.C_drew ?_))); (case side2 => exact HC0_4.out); rintro e w59 ⟨rfl, hb⟩; have n0_ := Aside0.mk (blk_below (g := gb260) (o := .cells #[.int .i64 a0_0, .int .i64 a0_1, .int .i64 a0_2, .int .i64 a0_3, .slice (some ad261) l0_4.length c0_4] 57 (0, 0)) (by (with_reducible repeat (first | refine blk_drewN ?_ _ | refine blk_drew ?_ | refine blk_alloc ?_ _)); exact BK260.out) hb); have n1_ := Aside0.mk (blk_below (g := gb262) (o := .cells #[.int .u8 ((rd_T76 l0_4 x3_1).f0), .string ((rd_T76 l0_4 x3_1).f1)] 76 (0, 0)) (by (with_reducible repeat (first | refine blk_drewN ?_ _ | refine blk_drew ?_ | refine blk_alloc ?_ _)); exact BK262.out) hb); have n2_ := Aside0.mk (below_step (by repeat (first | (with_reducible first | exact HB.out | apply below_alloc | apply pw_below_drewN | apply below_drew1 | refine below_set ?_ GE260.out | refine below_set ?_ GE262.out) | exact HB.out)) hb); clear BK260; clear BK262; clear HB; have BK260 := n0_; have BK262 := n1_; have HB := n2_; clear n0_ n1_ n2_; (try clear hb); (try clear hb2); (try clear hk); (try clear hi)))
              go_ret
              exact ⟨by first | rfl | (simp [errW_none, errW_some] <;> rfl) | (simp [*, errW_none, errW_some] <;> rfl), by repeat (first | (with_reducible first | exact HB.out | apply below_alloc | apply pw_below_drewN | apply below_drew1 | refine below_set ?_ GE260.out | refine below_set ?_ GE262.out) | exact HB.out)⟩
           ·replace c37 := Bool.eq_false_iff.mpr c37
            subst c37
            have H1 : (some false) = some r := by rw [if_neg (show ¬ (false = true) by decide)] at H; exact H
            clear H
            have H := H1
            clear H1
            obtain rfl := Option.some.inj H
            have hnb60 := NB262_260.out
            have hnc60 := NB260_262.out
            have hcz61_0 : wc.cell? ⟨gb262, 0, none⟩ = some (.int .u8 ((rd_T76 l0_4 x3_1).f0)) := (blk_cell BK262.out 0).trans rfl
            have hcz61_1 : wc.cell? ⟨gb262, 1, none⟩ = some (.string ((rd_T76 l0_4 x3_1).f1)) := (blk_cell BK262.out 1).trans rfl
            have hfz61_0 := blk_frozen BK262.out 0
            have hfz61_1 := blk_frozen BK262.out 1
            have hcz62_0 : wc.cell? ⟨gb260, 0, none⟩ = some (.int .i64 a0_0) := (blk_cell BK260.out 0).trans rfl
            have hcz62_1 : wc.cell? ⟨gb260, 1, none⟩ = some (.int .i64 a0_1) := (blk_cell BK260.out 1).trans rfl
            have hcz62_2 : wc.cell? ⟨gb260, 2, none⟩ = some (.int .i64 a0_2) := (blk_cell BK260.out 2).trans rfl
            have hcz62_3 : wc.cell? ⟨gb260, 3, none⟩ = some (.int .i64 a0_3) := (blk_cell BK260.out 3).trans rfl
            have hcz62_4 : wc.cell? ⟨gb260, 4, none⟩ = some (.slice (some ad261) l0_4.length c0_4) := (blk_cell BK260.out 4).trans rfl
            have hfz62_0 := blk_frozen BK260.out 0
            have hfz62_1 := blk_frozen BK260.out 1
            have hfz62_2 := blk_frozen BK260.out 2
            have hfz62_3 := blk_frozen BK260.out 3
            have hfz62_4 := blk_frozen BK260.out 4
            go_wp2_with (first | (go_at_call 73; (with_reducible refine (redlineref11_last.calls kj5 a0_0 a0_1 a0_2 a0_3 _ _ l0_4 x3_1 45 false _ ?side1 ?side2 A36.out).mono ?_); (case side1 => repeat (first | exact (Kd.C_below HR0_4.out HB.out) | (with_reducible refine Kd.C_alloc ?_ _) | (with_reducible refine Kd.C_drewN ?_ _) | (with_reducible refine Kd.C_drew ?_))); (case side2 => exact HC0_4.out); rintro e w63 ⟨rfl, hb⟩; have n0_ := Aside0.mk (blk_below (g := gb260) (o := .cells #[.int .i64 a0_0, .int .i64 a0_1, .int .i64 a0_2, .int .i64 a0_3, .slice (some ad261) l0_4.length c0_4] 57 (0, 0)) (by (with_reducible repeat (first | refine blk_drewN ?_ _ | refine blk_drew ?_ | refine blk_alloc ?_ _)); exact BK260.out) hb); have n1_ := Aside0.mk (blk_below (g := gb262) (o := .cells #[.int .u8 ((rd_T76 l0_4 x3_1).f0), .string ((rd_T76 l0_4 x3_1).f1)] 76 (0, 0)) (by (with_reducible repeat (first | refine blk_drewN ?_ _ | refine blk_drew ?_ | refine blk_alloc ?_ _)); exact BK262.out) hb); have n2_ := Aside0.mk (below_step (by repeat (first | (with_reducible first | exact HB.out | apply below_alloc | apply pw_below_drewN | apply below_drew1 | refine below_set ?_ GE260.out | refine below_set ?_ GE262.out) | exact HB.out)) hb); clear BK260; clear BK262; clear HB; have BK260 := n0_; have BK262 := n1_; have HB := n2_; clear n0_ n1_ n2_; (try clear hb); (try clear hb2); (try clear hk); (try clear hi)))
            go_ret
            exact ⟨by first | rfl | (simp [errW_none, errW_some] <;> rfl) | (simp [*, errW_none, errW_some] <;> rfl), by repeat (first | (with_reducible first | exact HB.out | apply below_alloc | apply pw_below_drewN | apply below_drew1 | refine below_set ?_ GE260.out | refine below_set ?_ GE262.out) | exact HB.out)⟩
     ·rw [if_neg c4] at H
      exact absurd H (by simp)
    ·rw [if_neg c3] at H
     have c3b0 : decide (x3_1 < (l0_4.length : Int)) = false := decide_eq_false c3
     clear c3
     obtain rfl := Option.some.inj H
     have hcz64_0 : wr.cell? ⟨gb260, 0, none⟩ = some (.int .i64 a0_0) := (blk_cell BK260.out 0).trans rfl
     have hcz64_1 : wr.cell? ⟨gb260, 1, none⟩ = some (.int .i64 a0_1) := (blk_cell BK260.out 1).trans rfl
     have hcz64_2 : wr.cell? ⟨gb260, 2, none⟩ = some (.int .i64 a0_2) := (blk_cell BK260.out 2).trans rfl
     have hcz64_3 : wr.cell? ⟨gb260, 3, none⟩ = some (.int .i64 a0_3) := (blk_cell BK260.out 3).trans rfl
     have hcz64_4 : wr.cell? ⟨gb260, 4, none⟩ = some (.slice A0_4 l0_4.length c0_4) := (blk_cell BK260.out 4).trans rfl
     have hfz64_0 := blk_frozen BK260.out 0
     have hfz64_1 := blk_frozen BK260.out 1
     have hfz64_2 := blk_frozen BK260.out 2
     have hfz64_3 := blk_frozen BK260.out 3
     have hfz64_4 := blk_frozen BK260.out 4
     go_wp2
     go_ret
     exact ⟨by first | rfl | (simp [errW_none, errW_some] <;> rfl) | (simp [*, errW_none, errW_some] <;> rfl), by repeat (first | (with_reducible first | exact HB.out | apply below_alloc | apply pw_below_drewN | apply below_drew1 | refine below_set ?_ GE260.out) | exact HB.out)⟩
end Go.Proofs.Ytnbeppnpfdempaa.X
