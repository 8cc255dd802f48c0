import Derived.Test.YtchhelmilbheoaaDoorZMXx0
import Derived.Test.YtchhelmilbheoaaDoorZMXx40
namespace Go.Proofs.YtchhelmilbheoaaDoor.X
open Go.RowKit Go.Proofs.YtchhelmilbheoaaDoorW.PrintWords Go.Proofs.YtchhelmilbheoaaDoorW.PrintLast Go.Proofs.YtchhelmilbheoaaDoorW.PrintMore
attribute [local go_sem] max2_int min2_int max_two min_two max_three min_three max_four min_four   -- for this text's walks alone
open Go.Proofs.YtchhelmilbheoaaDoorW.HandWords
set_option linter.unusedVariables false
set_option linter.unusedSimpArgs false
mutual
def edits_Check.l0 : Nat → Int → Int → Int → Int → List (S72) → Int → Int → Option (Int)
  | 0, _, _, _, _, _, _, _ => none
  | k + 1, x1, x2, x7, x8, x12, x13, x14 => if x14 < x13 then (if 0 ≤ x14 then (if x14 < (x12.length : Int) then ((edits_count.f ((rd_T72 x12 x14).f0)).bind fun t130 => (if t130 = true then ((edits_count.f ((rd_T72 x12 x14).f1)).bind fun t131 => (if t131 = true then ((edits_count.f ((rd_T72 x12 x14).f2)).bind fun t132 => (if t132 = true then ((edits_count.f ((rd_T72 x12 x14).f3)).bind fun t133 => (if t133 = true then (if ((rd_T72 x12 x14).f1) = 0 then (edits_Check.j1 k x1 x2 x7 x8 x14 x12 x13 x14 (((rd_T72 x12 x14).f3) == 0) ((rd_T72 x12 x14).f0) ((rd_T72 x12 x14).f1) ((rd_T72 x12 x14).f2) ((rd_T72 x12 x14).f3)) else (edits_Check.j1 k x1 x2 x7 x8 x14 x12 x13 x14 false ((rd_T72 x12 x14).f0) ((rd_T72 x12 x14).f1) ((rd_T72 x12 x14).f2) ((rd_T72 x12 x14).f3))) else (edits_Check.j1 k x1 x2 x7 x8 x14 x12 x13 x14 true ((rd_T72 x12 x14).f0) ((rd_T72 x12 x14).f1) ((rd_T72 x12 x14).f2) ((rd_T72 x12 x14).f3)))) else (edits_Check.j1 k x1 x2 x7 x8 x14 x12 x13 x14 true ((rd_T72 x12 x14).f0) ((rd_T72 x12 x14).f1) ((rd_T72 x12 x14).f2) ((rd_T72 x12 x14).f3)))) else (edits_Check.j1 k x1 x2 x7 x8 x14 x12 x13 x14 true ((rd_T72 x12 x14).f0) ((rd_T72 x12 x14).f1) ((rd_T72 x12 x14).f2) ((rd_T72 x12 x14).f3)))) else (edits_Check.j1 k x1 x2 x7 x8 x14 x12 x13 x14 true ((rd_T72 x12 x14).f0) ((rd_T72 x12 x14).f1) ((rd_T72 x12 x14).f2) ((rd_T72 x12 x14).f3)))) else (none)) else (none)) else (if x7 > x1 then (some 50) else (if x8 > x2 then (some 50) else (if (wrap64 (x1 - x7)) = (wrap64 (x2 - x8)) then (some 0) else (some 50))))
def edits_Check.j1 : Nat → Int → Int → Int → Int → Int → List (S72) → Int → Int → Bool → Int → Int → Int → Int → Option (Int)
  | 0, _, _, _, _, _, _, _, _, _, _, _, _, _ => none
  | k + 1, x1, x2, x7, x8, x9, x12, x13, x14, x50, x130000, x130001, x130002, x130003 => if x50 = true then (some 50) else (if (wrap64 (x130000 - x7)) < 0 then (some 50) else (if x9 > 0 then (if (wrap64 (x130000 - x7)) = 0 then (some 50) else (if (wrap64 (x130000 - x7)) = (wrap64 (x130002 - x8)) then (edits_Check.l0 k x1 x2 (wrap64 (x130000 + x130001)) (wrap64 (x130002 + x130003)) x12 x13 (wrap64 (x14 + 1))) else (some 50))) else (if (wrap64 (x130000 - x7)) = (wrap64 (x130002 - x8)) then (edits_Check.l0 k x1 x2 (wrap64 (x130000 + x130001)) (wrap64 (x130002 + x130003)) x12 x13 (wrap64 (x14 + 1))) else (some 50))))
end
def edits_Check.f (k : Nat) (l0 : List (S72)) (a1 : Int) (a2 : Int) : Option (Int) := edits_Check.l0 k a1 a2 0 0 l0 (l0.length : Int) 0
set_option maxHeartbeats 8000000 in
set_option maxRecDepth 100000 in
theorem edits_Check.calls (k : Nat) (A0 : Option Addr) (c0 : Nat) (l0 : List (S72)) (a1 : Int) (a2 : Int) (r : Int) (w : World) (hr0 : Kd.C k72 w A0 l0.length l0) (hc0 : l0.length ≤ c0) (h : edits_Check.f k l0 a1 a2 = some r) :
    Calls Tryd.prog 26 #[.slice A0 l0.length c0, .int .i64 a1, .int .i64 a2] w fun e w' => e = .returned (.int .i64 r) ∧ Below w.heap.size w w' := by
  have hu72 := Tryd.underlying72
  have HR0 := Aside0.mk hr0
  have HC0 := Aside0.mk hc0
  clear hr0 hc0
  have HB := Aside0.mk (Below.refl w.heap.size w)
  have H : (edits_Check.l0 k a1 a2 0 0 l0 (l0.length : Int) 0) = some r := h
  clear h
  have H' := Aside0.mk H
  clear H
  go_enter Tryd.func26, Tryd.ntmps26
  go_wp2
  repeat (go_quiet (fail); try go_wp2)
  go_loopg [7, 8, 14] k (fun kq v7 v8 v14 w' => ∃ (x7_1 : Int) (x8_1 : Int) (x14_1 : Int), v7 = .int .i64 x7_1 ∧ v8 = .int .i64 x8_1 ∧ v14 = .int .i64 x14_1 ∧ Aside0 (edits_Check.l0 kq a1 a2 x7_1 x8_1 l0 (l0.length : Int) x14_1 = some r) ∧ Aside0 (kq ≤ k) ∧ Aside0 (Below w.heap.size w w'))
  case atStart => exact ⟨(0), (0), (0), (by first | rfl | (simp; done) | (simp [*]; done)), (by first | rfl | (simp; done) | (simp [*]; done)), (by first | rfl | (simp; done) | (simp [*]; done)), H', ⟨Nat.le_refl _⟩, ⟨by repeat (first | (with_reducible first | exact HB.out | apply below_alloc | apply pw_below_drewN | apply below_drew1) | exact HB.out)⟩⟩
  case round =>
   clear H'
   try clear c2
   try clear p2
   obtain ⟨x7_1, x8_1, x14_1, rfl, rfl, rfl, HA, HK1, HB⟩ := hrel
   cases gk with
   | zero => exact absurd HA.out (by simp [edits_Check.l0])
   | succ k1 =>
    have H := HA.out
    clear HA
    simp only [edits_Check.l0] at H
    by_cases c4 : x14_1 < (l0.length : Int)
    ·rw [if_pos c4] at H
     have c4b0 : decide (x14_1 < (l0.length : Int)) = true := decide_eq_true c4
     clear c4
     by_cases c5 : 0 ≤ x14_1
     ·rw [if_pos c5] at H
      have c5b0 : decide (0 ≤ x14_1) = true := decide_eq_true c5
      clear c5
      by_cases c6 : x14_1 < (l0.length : Int)
      ·rw [if_pos c6] at H
       have c6b0 : decide (x14_1 < (l0.length : Int)) = true := decide_eq_true c6
       clear c6
       have HC7 := Aside0.mk H
       clear H
       have p128 : 0 ≤ (x14_1 : Int) := of_decide_eq_true (by first | (with_reducible assumption) | assumption)
       have q128 : x14_1 < (l0.length : Int) := of_decide_eq_true (by first | (with_reducible assumption) | assumption)
       obtain ⟨ad128, e128, hx128_0, hx128_1, hx128_2, hx128_3⟩ := at_T72 HR0.out x14_1 p128 q128
       cases e128
       replace hx128_0 := (HB.out.cell (World.block_lt_of_cell? w _ hx128_0)).trans hx128_0
       replace hx128_1 := (HB.out.cell (World.block_lt_of_cell? w _ hx128_1)).trans hx128_1
       replace hx128_2 := (HB.out.cell (World.block_lt_of_cell? w _ hx128_2)).trans hx128_2
       replace hx128_3 := (HB.out.cell (World.block_lt_of_cell? w _ hx128_3)).trans hx128_3
       replace p128 := eq_true p128
       replace q128 := eq_true q128
       go_upto_region 5 with (first | ((with_reducible refine gate_dst (N := 10) rfl ?_); refine box_event ?hg (N := 10) ?hd (cs := #[.int .i64 0, .int .i64 0, .int .i64 0, .int .i64 0]) (t := 72) ?hr ?_; (case hd => rfl); (case hg => rfl); (case hr => first | (go_simp; done) | (go_simp; rfl)); intro gb129 hg w8 hbox hb; have n0_ := Aside0.mk (below_step (by repeat (first | (with_reducible first | exact HB.out | apply below_alloc | apply pw_below_drewN | apply below_drew1) | exact HB.out)) hb); have n1_ := Aside0.mk (hbox); have n2_ := Aside0.mk ((by rw [hg]; exact (below_size (by repeat (first | (with_reducible first | exact HB.out | apply below_alloc | apply pw_below_drewN | apply below_drew1) | exact HB.out))) : w.heap.size ≤ gb129)); have n3_ := Aside0.mk ((by rw [hg]; exact (below_size (by repeat (first | (with_reducible first | exact HB.out | apply below_alloc | apply pw_below_drewN | apply below_drew1) | exact HB.out))) : w.heap.size ≤ gb129)); clear HB; have HB := n0_; have BK129 := n1_; have GW129 := n2_; have GE129 := n3_; clear n0_ n1_ n2_ n3_; clear hb hbox hg; have hcz9_0 : w8.cell? ⟨gb129, 0, none⟩ = some (.int .i64 0) := (blk_cell BK129.out 0).trans rfl; have hcz9_1 : w8.cell? ⟨gb129, 1, none⟩ = some (.int .i64 0) := (blk_cell BK129.out 1).trans rfl; have hcz9_2 : w8.cell? ⟨gb129, 2, none⟩ = some (.int .i64 0) := (blk_cell BK129.out 2).trans rfl; have hcz9_3 : w8.cell? ⟨gb129, 3, none⟩ = some (.int .i64 0) := (blk_cell BK129.out 3).trans rfl; have hfz9_0 := blk_frozen BK129.out 0; have hfz9_1 := blk_frozen BK129.out 1; have hfz9_2 := blk_frozen BK129.out 2; have hfz9_3 := blk_frozen BK129.out 3))
       repeat (go_quiet (first | ((with_reducible refine gate_dst (N := 10) rfl ?_); refine box_event ?hg (N := 10) ?hd (cs := #[.int .i64 0, .int .i64 0, .int .i64 0, .int .i64 0]) (t := 72) ?hr ?_; (case hd => rfl); (case hg => rfl); (case hr => first | (go_simp; done) | (go_simp; rfl)); intro gb129 hg w8 hbox hb; have n0_ := Aside0.mk (below_step (by repeat (first | (with_reducible first | exact HB.out | apply below_alloc | apply pw_below_drewN | apply below_drew1) | exact HB.out)) hb); have n1_ := Aside0.mk (hbox); have n2_ := Aside0.mk ((by rw [hg]; exact (below_size (by repeat (first | (with_reducible first | exact HB.out | apply below_alloc | apply pw_below_drewN | apply below_drew1) | exact HB.out))) : w.heap.size ≤ gb129)); have n3_ := Aside0.mk ((by rw [hg]; exact (below_size (by repeat (first | (with_reducible first | exact HB.out | apply below_alloc | apply pw_below_drewN | apply below_drew1) | exact HB.out))) : w.heap.size ≤ gb129)); clear HB; have HB := n0_; have BK129 := n1_; have GW129 := n2_; have GE129 := n3_; clear n0_ n1_ n2_ n3_; clear hb hbox hg; have hcz9_0 : w8.cell? ⟨gb129, 0, none⟩ = some (.int .i64 0) := (blk_cell BK129.out 0).trans rfl; have hcz9_1 : w8.cell? ⟨gb129, 1, none⟩ = some (.int .i64 0) := (blk_cell BK129.out 1).trans rfl; have hcz9_2 : w8.cell? ⟨gb129, 2, none⟩ = some (.int .i64 0) := (blk_cell BK129.out 2).trans rfl; have hcz9_3 : w8.cell? ⟨gb129, 3, none⟩ = some (.int .i64 0) := (blk_cell BK129.out 3).trans rfl; have hfz9_0 := blk_frozen BK129.out 0; have hfz9_1 := blk_frozen BK129.out 1; have hfz9_2 := blk_frozen BK129.out 2; have hfz9_3 := blk_frozen BK129.out 3)); go_upto_region 5 with (first | ((with_reducible refine gate_dst (N := 10) rfl ?_); refine box_event ?hg (N := 10) ?hd (cs := #[.int .i64 0, .int .i64 0, .int .i64 0, .int .i64 0]) (t := 72) ?hr ?_; (case hd => rfl); (case hg => rfl); (case hr => first | (go_simp; done) | (go_simp; rfl)); intro gb129 hg w8 hbox hb; have n0_ := Aside0.mk (below_step (by repeat (first | (with_reducible first | exact HB.out | apply below_alloc | apply pw_below_drewN | apply below_drew1) | exact HB.out)) hb); have n1_ := Aside0.mk (hbox); have n2_ := Aside0.mk ((by rw [hg]; exact (below_size (by repeat (first | (with_reducible first | exact HB.out | apply below_alloc | apply pw_below_drewN | apply below_drew1) | exact HB.out))) : w.heap.size ≤ gb129)); have n3_ := Aside0.mk ((by rw [hg]; exact (below_size (by repeat (first | (with_reducible first | exact HB.out | apply below_alloc | apply pw_below_drewN | apply below_drew1) | exact HB.out))) : w.heap.size ≤ gb129)); clear HB; have HB := n0_; have BK129 := n1_; have GW129 := n2_; have GE129 := n3_; clear n0_ n1_ n2_ n3_; clear hb hbox hg; have hcz9_0 : w8.cell? ⟨gb129, 0, none⟩ = some (.int .i64 0) := (blk_cell BK129.out 0).trans rfl; have hcz9_1 : w8.cell? ⟨gb129, 1, none⟩ = some (.int .i64 0) := (blk_cell BK129.out 1).trans rfl; have hcz9_2 : w8.cell? ⟨gb129, 2, none⟩ = some (.int .i64 0) := (blk_cell BK129.out 2).trans rfl; have hcz9_3 : w8.cell? ⟨gb129, 3, none⟩ = some (.int .i64 0) := (blk_cell BK129.out 3).trans rfl; have hfz9_0 := blk_frozen BK129.out 0; have hfz9_1 := blk_frozen BK129.out 1; have hfz9_2 := blk_frozen BK129.out 2; have hfz9_3 := blk_frozen BK129.out 3)))
       (try simp only [Act.put, List.setIfInBounds_toArray, List.set_cons_zero, List.set_cons_succ])
       go_cut [50] (fun v50 wc => ∃ (kq : Nat) (x50_6 : Bool), v50 = .bool x50_6 ∧ Aside0 (edits_Check.j1 kq a1 a2 x7_1 x8_1 x14_1 l0 (l0.length : Int) x14_1 x50_6 ((rd_T72 l0 x14_1).f0) ((rd_T72 l0 x14_1).f1) ((rd_T72 l0 x14_1).f2) ((rd_T72 l0 x14_1).f3) = some r) ∧ Aside0 (kq ≤ k1) ∧ Aside0 (wc.heap[gb129]? = some (.cells #[.int .i64 ((rd_T72 l0 x14_1).f0), .int .i64 ((rd_T72 l0 x14_1).f1), .int .i64 ((rd_T72 l0 x14_1).f2), .int .i64 ((rd_T72 l0 x14_1).f3)] 72 (0, 0))) ∧ Aside0 (Below w.heap.size w wc))
       case first =>
        have H := HC7.out
        clear HC7
        replace H := Option.bind_eq_some_iff.mp H
        obtain ⟨t130, A100, H⟩ := H
        replace H : (if t130 = true then ((edits_count.f ((rd_T72 l0 x14_1).f1)).bind fun t131 => (if t131 = true then ((edits_count.f ((rd_T72 l0 x14_1).f2)).bind fun t132 => (if t132 = true then ((edits_count.f ((rd_T72 l0 x14_1).f3)).bind fun t133 => (if t133 = true then (if ((rd_T72 l0 x14_1).f1) = 0 then (edits_Check.j1 k1 a1 a2 x7_1 x8_1 x14_1 l0 (l0.length : Int) x14_1 (((rd_T72 l0 x14_1).f3) == 0) ((rd_T72 l0 x14_1).f0) ((rd_T72 l0 x14_1).f1) ((rd_T72 l0 x14_1).f2) ((rd_T72 l0 x14_1).f3)) else (edits_Check.j1 k1 a1 a2 x7_1 x8_1 x14_1 l0 (l0.length : Int) x14_1 false ((rd_T72 l0 x14_1).f0) ((rd_T72 l0 x14_1).f1) ((rd_T72 l0 x14_1).f2) ((rd_T72 l0 x14_1).f3))) else (edits_Check.j1 k1 a1 a2 x7_1 x8_1 x14_1 l0 (l0.length : Int) x14_1 true ((rd_T72 l0 x14_1).f0) ((rd_T72 l0 x14_1).f1) ((rd_T72 l0 x14_1).f2) ((rd_T72 l0 x14_1).f3)))) else (edits_Check.j1 k1 a1 a2 x7_1 x8_1 x14_1 l0 (l0.length : Int) x14_1 true ((rd_T72 l0 x14_1).f0) ((rd_T72 l0 x14_1).f1) ((rd_T72 l0 x14_1).f2) ((rd_T72 l0 x14_1).f3)))) else (edits_Check.j1 k1 a1 a2 x7_1 x8_1 x14_1 l0 (l0.length : Int) x14_1 true ((rd_T72 l0 x14_1).f0) ((rd_T72 l0 x14_1).f1) ((rd_T72 l0 x14_1).f2) ((rd_T72 l0 x14_1).f3)))) else (edits_Check.j1 k1 a1 a2 x7_1 x8_1 x14_1 l0 (l0.length : Int) x14_1 true ((rd_T72 l0 x14_1).f0) ((rd_T72 l0 x14_1).f1) ((rd_T72 l0 x14_1).f2) ((rd_T72 l0 x14_1).f3))) = some r := H
        have A10 := Aside0.mk A100
        clear A100
        by_cases c11 : t130 = true
        ·subst c11
         have H1 : ((edits_count.f ((rd_T72 l0 x14_1).f1)).bind fun t131 => (if t131 = true then ((edits_count.f ((rd_T72 l0 x14_1).f2)).bind fun t132 => (if t132 = true then ((edits_count.f ((rd_T72 l0 x14_1).f3)).bind fun t133 => (if t133 = true then (if ((rd_T72 l0 x14_1).f1) = 0 then (edits_Check.j1 k1 a1 a2 x7_1 x8_1 x14_1 l0 (l0.length : Int) x14_1 (((rd_T72 l0 x14_1).f3) == 0) ((rd_T72 l0 x14_1).f0) ((rd_T72 l0 x14_1).f1) ((rd_T72 l0 x14_1).f2) ((rd_T72 l0 x14_1).f3)) else (edits_Check.j1 k1 a1 a2 x7_1 x8_1 x14_1 l0 (l0.length : Int) x14_1 false ((rd_T72 l0 x14_1).f0) ((rd_T72 l0 x14_1).f1) ((rd_T72 l0 x14_1).f2) ((rd_T72 l0 x14_1).f3))) else (edits_Check.j1 k1 a1 a2 x7_1 x8_1 x14_1 l0 (l0.length : Int) x14_1 true ((rd_T72 l0 x14_1).f0) ((rd_T72 l0 x14_1).f1) ((rd_T72 l0 x14_1).f2) ((rd_T72 l0 x14_1).f3)))) else (edits_Check.j1 k1 a1 a2 x7_1 x8_1 x14_1 l0 (l0.length : Int) x14_1 true ((rd_T72 l0 x14_1).f0) ((rd_T72 l0 x14_1).f1) ((rd_T72 l0 x14_1).f2) ((rd_T72 l0 x14_1).f3)))) else (edits_Check.j1 k1 a1 a2 x7_1 x8_1 x14_1 l0 (l0.length : Int) x14_1 true ((rd_T72 l0 x14_1).f0) ((rd_T72 l0 x14_1).f1) ((rd_T72 l0 x14_1).f2) ((rd_T72 l0 x14_1).f3)))) = some r := by rw [if_pos rfl] at H; exact H
         clear H
         have H := H1
         clear H1
         replace H := Option.bind_eq_some_iff.mp H
         obtain ⟨t131, A120, H⟩ := H
         replace H : (if t131 = true then ((edits_count.f ((rd_T72 l0 x14_1).f2)).bind fun t132 => (if t132 = true then ((edits_count.f ((rd_T72 l0 x14_1).f3)).bind fun t133 => (if t133 = true then (if ((rd_T72 l0 x14_1).f1) = 0 then (edits_Check.j1 k1 a1 a2 x7_1 x8_1 x14_1 l0 (l0.length : Int) x14_1 (((rd_T72 l0 x14_1).f3) == 0) ((rd_T72 l0 x14_1).f0) ((rd_T72 l0 x14_1).f1) ((rd_T72 l0 x14_1).f2) ((rd_T72 l0 x14_1).f3)) else (edits_Check.j1 k1 a1 a2 x7_1 x8_1 x14_1 l0 (l0.length : Int) x14_1 false ((rd_T72 l0 x14_1).f0) ((rd_T72 l0 x14_1).f1) ((rd_T72 l0 x14_1).f2) ((rd_T72 l0 x14_1).f3))) else (edits_Check.j1 k1 a1 a2 x7_1 x8_1 x14_1 l0 (l0.length : Int) x14_1 true ((rd_T72 l0 x14_1).f0) ((rd_T72 l0 x14_1).f1) ((rd_T72 l0 x14_1).f2) ((rd_T72 l0 x14_1).f3)))) else (edits_Check.j1 k1 a1 a2 x7_1 x8_1 x14_1 l0 (l0.length : Int) x14_1 true ((rd_T72 l0 x14_1).f0) ((rd_T72 l0 x14_1).f1) ((rd_T72 l0 x14_1).f2) ((rd_T72 l0 x14_1).f3)))) else (edits_Check.j1 k1 a1 a2 x7_1 x8_1 x14_1 l0 (l0.length : Int) x14_1 true ((rd_T72 l0 x14_1).f0) ((rd_T72 l0 x14_1).f1) ((rd_T72 l0 x14_1).f2) ((rd_T72 l0 x14_1).f3))) = some r := H
         have A12 := Aside0.mk A120
         clear A120
         by_cases c13 : t131 = true
         ·subst c13
          have H1 : ((edits_count.f ((rd_T72 l0 x14_1).f2)).bind fun t132 => (if t132 = true then ((edits_count.f ((rd_T72 l0 x14_1).f3)).bind fun t133 => (if t133 = true then (if ((rd_T72 l0 x14_1).f1) = 0 then (edits_Check.j1 k1 a1 a2 x7_1 x8_1 x14_1 l0 (l0.length : Int) x14_1 (((rd_T72 l0 x14_1).f3) == 0) ((rd_T72 l0 x14_1).f0) ((rd_T72 l0 x14_1).f1) ((rd_T72 l0 x14_1).f2) ((rd_T72 l0 x14_1).f3)) else (edits_Check.j1 k1 a1 a2 x7_1 x8_1 x14_1 l0 (l0.length : Int) x14_1 false ((rd_T72 l0 x14_1).f0) ((rd_T72 l0 x14_1).f1) ((rd_T72 l0 x14_1).f2) ((rd_T72 l0 x14_1).f3))) else (edits_Check.j1 k1 a1 a2 x7_1 x8_1 x14_1 l0 (l0.length : Int) x14_1 true ((rd_T72 l0 x14_1).f0) ((rd_T72 l0 x14_1).f1) ((rd_T72 l0 x14_1).f2) ((rd_T72 l0 x14_1).f3)))) else (edits_Check.j1 k1 a1 a2 x7_1 x8_1 x14_1 l0 (l0.length : Int) x14_1 true ((rd_T72 l0 x14_1).f0) ((rd_T72 l0 x14_1).f1) ((rd_T72 l0 x14_1).f2) ((rd_T72 l0 x14_1).f3)))) = some r := by rw [if_pos rfl] at H; exact H
          clear H
          have H := H1
          clear H1
          replace H := Option.bind_eq_some_iff.mp H
          obtain ⟨t132, A140, H⟩ := H
          replace H : (if t132 = true then ((edits_count.f ((rd_T72 l0 x14_1).f3)).bind fun t133 => (if t133 = true then (if ((rd_T72 l0 x14_1).f1) = 0 then (edits_Check.j1 k1 a1 a2 x7_1 x8_1 x14_1 l0 (l0.length : Int) x14_1 (((rd_T72 l0 x14_1).f3) == 0) ((rd_T72 l0 x14_1).f0) ((rd_T72 l0 x14_1).f1) ((rd_T72 l0 x14_1).f2) ((rd_T72 l0 x14_1).f3)) else (edits_Check.j1 k1 a1 a2 x7_1 x8_1 x14_1 l0 (l0.length : Int) x14_1 false ((rd_T72 l0 x14_1).f0) ((rd_T72 l0 x14_1).f1) ((rd_T72 l0 x14_1).f2) ((rd_T72 l0 x14_1).f3))) else (edits_Check.j1 k1 a1 a2 x7_1 x8_1 x14_1 l0 (l0.length : Int) x14_1 true ((rd_T72 l0 x14_1).f0) ((rd_T72 l0 x14_1).f1) ((rd_T72 l0 x14_1).f2) ((rd_T72 l0 x14_1).f3)))) else (edits_Check.j1 k1 a1 a2 x7_1 x8_1 x14_1 l0 (l0.length : Int) x14_1 true ((rd_T72 l0 x14_1).f0) ((rd_T72 l0 x14_1).f1) ((rd_T72 l0 x14_1).f2) ((rd_T72 l0 x14_1).f3))) = some r := H
          have A14 := Aside0.mk A140
          clear A140
          by_cases c15 : t132 = true
          ·subst c15
           have H1 : ((edits_count.f ((rd_T72 l0 x14_1).f3)).bind fun t133 => (if t133 = true then (if ((rd_T72 l0 x14_1).f1) = 0 then (edits_Check.j1 k1 a1 a2 x7_1 x8_1 x14_1 l0 (l0.length : Int) x14_1 (((rd_T72 l0 x14_1).f3) == 0) ((rd_T72 l0 x14_1).f0) ((rd_T72 l0 x14_1).f1) ((rd_T72 l0 x14_1).f2) ((rd_T72 l0 x14_1).f3)) else (edits_Check.j1 k1 a1 a2 x7_1 x8_1 x14_1 l0 (l0.length : Int) x14_1 false ((rd_T72 l0 x14_1).f0) ((rd_T72 l0 x14_1).f1) ((rd_T72 l0 x14_1).f2) ((rd_T72 l0 x14_1).f3))) else (edits_Check.j1 k1 a1 a2 x7_1 x8_1 x14_1 l0 (l0.length : Int) x14_1 true ((rd_T72 l0 x14_1).f0) ((rd_T72 l0 x14_1).f1) ((rd_T72 l0 x14_1).f2) ((rd_T72 l0 x14_1).f3)))) = some r := by rw [if_pos rfl] at H; exact H
           clear H
           have H := H1
           clear H1
           replace H := Option.bind_eq_some_iff.mp H
           obtain ⟨t133, A160, H⟩ := H
           replace H : (if t133 = true then (if ((rd_T72 l0 x14_1).f1) = 0 then (edits_Check.j1 k1 a1 a2 x7_1 x8_1 x14_1 l0 (l0.length : Int) x14_1 (((rd_T72 l0 x14_1).f3) == 0) ((rd_T72 l0 x14_1).f0) ((rd_T72 l0 x14_1).f1) ((rd_T72 l0 x14_1).f2) ((rd_T72 l0 x14_1).f3)) else (edits_Check.j1 k1 a1 a2 x7_1 x8_1 x14_1 l0 (l0.length : Int) x14_1 false ((rd_T72 l0 x14_1).f0) ((rd_T72 l0 x14_1).f1) ((rd_T72 l0 x14_1).f2) ((rd_T72 l0 x14_1).f3))) else (edits_Check.j1 k1 a1 a2 x7_1 x8_1 x14_1 l0 (l0.length : Int) x14_1 true ((rd_T72 l0 x14_1).f0) ((rd_T72 l0 x14_1).f1) ((rd_T72 l0 x14_1).f2) ((rd_T72 l0 x14_1).f3))) = some r := H
           have A16 := Aside0.mk A160
           clear A160
           by_cases c17 : t133 = true
           ·subst c17
            have H1 : (if ((rd_T72 l0 x14_1).f1) = 0 then (edits_Check.j1 k1 a1 a2 x7_1 x8_1 x14_1 l0 (l0.length : Int) x14_1 (((rd_T72 l0 x14_1).f3) == 0) ((rd_T72 l0 x14_1).f0) ((rd_T72 l0 x14_1).f1) ((rd_T72 l0 x14_1).f2) ((rd_T72 l0 x14_1).f3)) else (edits_Check.j1 k1 a1 a2 x7_1 x8_1 x14_1 l0 (l0.length : Int) x14_1 false ((rd_T72 l0 x14_1).f0) ((rd_T72 l0 x14_1).f1) ((rd_T72 l0 x14_1).f2) ((rd_T72 l0 x14_1).f3))) = some r := by rw [if_pos rfl] at H; exact H
            clear H
            have H := H1
            clear H1
            by_cases c18 : ((rd_T72 l0 x14_1).f1) = 0
            ·rw [if_pos c18] at H
             have c18b0 : (((rd_T72 l0 x14_1).f1) == 0) = true := beq_iff_eq.mpr c18
             have c18b1 : (((rd_T72 l0 x14_1).f1) != 0) = false := bne_eq_false_iff_eq.mpr c18
             clear c18
             (first | rw [c18b0] | rw [c18b1] | (simp only [i64_w, i32_w]; rw [c18b0]) | skip)
             have H' := Aside0.mk H
             clear H
             have hcz19_0 : w8.cell? ⟨gb129, 0, none⟩ = some (.int .i64 0) := (blk_cell BK129.out 0).trans rfl
             have hcz19_1 : w8.cell? ⟨gb129, 1, none⟩ = some (.int .i64 0) := (blk_cell BK129.out 1).trans rfl
             have hcz19_2 : w8.cell? ⟨gb129, 2, none⟩ = some (.int .i64 0) := (blk_cell BK129.out 2).trans rfl
             have hcz19_3 : w8.cell? ⟨gb129, 3, none⟩ = some (.int .i64 0) := (blk_cell BK129.out 3).trans rfl
             have hfz19_0 := blk_frozen BK129.out 0
             have hfz19_1 := blk_frozen BK129.out 1
             have hfz19_2 := blk_frozen BK129.out 2
             have hfz19_3 := blk_frozen BK129.out 3
             go_wp2_with (first | (go_at_call 45; (with_reducible refine (edits_count.calls ((rd_T72 l0 x14_1).f0) true _ A10.out).mono ?_); rintro e w' ⟨rfl, ⟨nd, rfl⟩⟩; (try first | exact ⟨rfl, _, World.drewN_drewN _ _ _⟩ | exact ⟨rfl, _, Eq.trans (World.drewN_drewN _ _ _) (congrArg (World.drewN _) (Nat.add_assoc _ _ _))⟩)) | (go_at_call 45; (with_reducible refine (edits_count.calls ((rd_T72 l0 x14_1).f1) true _ A12.out).mono ?_); rintro e w' ⟨rfl, ⟨nd, rfl⟩⟩; (try first | exact ⟨rfl, _, World.drewN_drewN _ _ _⟩ | exact ⟨rfl, _, Eq.trans (World.drewN_drewN _ _ _) (congrArg (World.drewN _) (Nat.add_assoc _ _ _))⟩)) | (go_at_call 45; (with_reducible refine (edits_count.calls ((rd_T72 l0 x14_1).f2) true _ A14.out).mono ?_); rintro e w' ⟨rfl, ⟨nd, rfl⟩⟩; (try first | exact ⟨rfl, _, World.drewN_drewN _ _ _⟩ | exact ⟨rfl, _, Eq.trans (World.drewN_drewN _ _ _) (congrArg (World.drewN _) (Nat.add_assoc _ _ _))⟩)) | (go_at_call 45; (with_reducible refine (edits_count.calls ((rd_T72 l0 x14_1).f3) true _ A16.out).mono ?_); rintro e w' ⟨rfl, ⟨nd, rfl⟩⟩; (try first | exact ⟨rfl, _, World.drewN_drewN _ _ _⟩ | exact ⟨rfl, _, Eq.trans (World.drewN_drewN _ _ _) (congrArg (World.drewN _) (Nat.add_assoc _ _ _))⟩)))
             repeat (go_quiet (first | (go_at_call 45; (with_reducible refine (edits_count.calls ((rd_T72 l0 x14_1).f0) true _ A10.out).mono ?_); rintro e w' ⟨rfl, ⟨nd, rfl⟩⟩; (try first | exact ⟨rfl, _, World.drewN_drewN _ _ _⟩ | exact ⟨rfl, _, Eq.trans (World.drewN_drewN _ _ _) (congrArg (World.drewN _) (Nat.add_assoc _ _ _))⟩)) | (go_at_call 45; (with_reducible refine (edits_count.calls ((rd_T72 l0 x14_1).f1) true _ A12.out).mono ?_); rintro e w' ⟨rfl, ⟨nd, rfl⟩⟩; (try first | exact ⟨rfl, _, World.drewN_drewN _ _ _⟩ | exact ⟨rfl, _, Eq.trans (World.drewN_drewN _ _ _) (congrArg (World.drewN _) (Nat.add_assoc _ _ _))⟩)) | (go_at_call 45; (with_reducible refine (edits_count.calls ((rd_T72 l0 x14_1).f2) true _ A14.out).mono ?_); rintro e w' ⟨rfl, ⟨nd, rfl⟩⟩; (try first | exact ⟨rfl, _, World.drewN_drewN _ _ _⟩ | exact ⟨rfl, _, Eq.trans (World.drewN_drewN _ _ _) (congrArg (World.drewN _) (Nat.add_assoc _ _ _))⟩)) | (go_at_call 45; (with_reducible refine (edits_count.calls ((rd_T72 l0 x14_1).f3) true _ A16.out).mono ?_); rintro e w' ⟨rfl, ⟨nd, rfl⟩⟩; (try first | exact ⟨rfl, _, World.drewN_drewN _ _ _⟩ | exact ⟨rfl, _, Eq.trans (World.drewN_drewN _ _ _) (congrArg (World.drewN _) (Nat.add_assoc _ _ _))⟩))); try go_wp2_with (first | (go_at_call 45; (with_reducible refine (edits_count.calls ((rd_T72 l0 x14_1).f0) true _ A10.out).mono ?_); rintro e w' ⟨rfl, ⟨nd, rfl⟩⟩; (try first | exact ⟨rfl, _, World.drewN_drewN _ _ _⟩ | exact ⟨rfl, _, Eq.trans (World.drewN_drewN _ _ _) (congrArg (World.drewN _) (Nat.add_assoc _ _ _))⟩)) | (go_at_call 45; (with_reducible refine (edits_count.calls ((rd_T72 l0 x14_1).f1) true _ A12.out).mono ?_); rintro e w' ⟨rfl, ⟨nd, rfl⟩⟩; (try first | exact ⟨rfl, _, World.drewN_drewN _ _ _⟩ | exact ⟨rfl, _, Eq.trans (World.drewN_drewN _ _ _) (congrArg (World.drewN _) (Nat.add_assoc _ _ _))⟩)) | (go_at_call 45; (with_reducible refine (edits_count.calls ((rd_T72 l0 x14_1).f2) true _ A14.out).mono ?_); rintro e w' ⟨rfl, ⟨nd, rfl⟩⟩; (try first | exact ⟨rfl, _, World.drewN_drewN _ _ _⟩ | exact ⟨rfl, _, Eq.trans (World.drewN_drewN _ _ _) (congrArg (World.drewN _) (Nat.add_assoc _ _ _))⟩)) | (go_at_call 45; (with_reducible refine (edits_count.calls ((rd_T72 l0 x14_1).f3) true _ A16.out).mono ?_); rintro e w' ⟨rfl, ⟨nd, rfl⟩⟩; (try first | exact ⟨rfl, _, World.drewN_drewN _ _ _⟩ | exact ⟨rfl, _, Eq.trans (World.drewN_drewN _ _ _) (congrArg (World.drewN _) (Nat.add_assoc _ _ _))⟩))))
             go_meet
             case rel => exact ⟨_, ((((rd_T72 l0 x14_1).f3) == 0)), (by first | rfl | (simp; done) | (simp [*]; done)), H', ⟨by have := HK1.out; first | omega | exact Nat.le_refl _⟩, ⟨by (with_reducible repeat (first | refine blk_drewN ?_ _ | refine blk_drew ?_ | refine blk_alloc ?_ _)); refine blk_put (cs := #[.int .i64 ((rd_T72 l0 x14_1).f0), .int .i64 ((rd_T72 l0 x14_1).f1), .int .i64 ((rd_T72 l0 x14_1).f2), .int .i64 0]) ?_ 3 _ rfl; (with_reducible repeat (first | refine blk_drewN ?_ _ | refine blk_drew ?_ | refine blk_alloc ?_ _)); refine blk_put (cs := #[.int .i64 ((rd_T72 l0 x14_1).f0), .int .i64 ((rd_T72 l0 x14_1).f1), .int .i64 0, .int .i64 0]) ?_ 2 _ rfl; (with_reducible repeat (first | refine blk_drewN ?_ _ | refine blk_drew ?_ | refine blk_alloc ?_ _)); refine blk_put (cs := #[.int .i64 ((rd_T72 l0 x14_1).f0), .int .i64 0, .int .i64 0, .int .i64 0]) ?_ 1 _ rfl; (with_reducible repeat (first | refine blk_drewN ?_ _ | refine blk_drew ?_ | refine blk_alloc ?_ _)); refine blk_put (cs := #[.int .i64 0, .int .i64 0, .int .i64 0, .int .i64 0]) ?_ 0 _ rfl; (with_reducible repeat (first | refine blk_drewN ?_ _ | refine blk_drew ?_ | refine blk_alloc ?_ _)); exact BK129.out⟩, ⟨by repeat (first | (with_reducible first | exact HB.out | apply below_alloc | apply pw_below_drewN | apply below_drew1 | refine below_set ?_ GE129.out) | exact HB.out)⟩⟩
            ·rw [if_neg c18] at H
             have c18b0 : (((rd_T72 l0 x14_1).f1) == 0) = false := beq_eq_false_iff_ne.mpr c18
             have c18b1 : (((rd_T72 l0 x14_1).f1) != 0) = true := bne_iff_ne.mpr c18
             (first | rw [c18b0] | rw [c18b1] | (simp only [i64_w, i32_w]; rw [c18b0]) | skip)
             have H' := Aside0.mk H
             clear H
             have hcz20_0 : w8.cell? ⟨gb129, 0, none⟩ = some (.int .i64 0) := (blk_cell BK129.out 0).trans rfl
             have hcz20_1 : w8.cell? ⟨gb129, 1, none⟩ = some (.int .i64 0) := (blk_cell BK129.out 1).trans rfl
             have hcz20_2 : w8.cell? ⟨gb129, 2, none⟩ = some (.int .i64 0) := (blk_cell BK129.out 2).trans rfl
             have hcz20_3 : w8.cell? ⟨gb129, 3, none⟩ = some (.int .i64 0) := (blk_cell BK129.out 3).trans rfl
             have hfz20_0 := blk_frozen BK129.out 0
             have hfz20_1 := blk_frozen BK129.out 1
             have hfz20_2 := blk_frozen BK129.out 2
             have hfz20_3 := blk_frozen BK129.out 3
             go_wp2_with (first | (go_at_call 45; (with_reducible refine (edits_count.calls ((rd_T72 l0 x14_1).f0) true _ A10.out).mono ?_); rintro e w' ⟨rfl, ⟨nd, rfl⟩⟩; (try first | exact ⟨rfl, _, World.drewN_drewN _ _ _⟩ | exact ⟨rfl, _, Eq.trans (World.drewN_drewN _ _ _) (congrArg (World.drewN _) (Nat.add_assoc _ _ _))⟩)) | (go_at_call 45; (with_reducible refine (edits_count.calls ((rd_T72 l0 x14_1).f1) true _ A12.out).mono ?_); rintro e w' ⟨rfl, ⟨nd, rfl⟩⟩; (try first | exact ⟨rfl, _, World.drewN_drewN _ _ _⟩ | exact ⟨rfl, _, Eq.trans (World.drewN_drewN _ _ _) (congrArg (World.drewN _) (Nat.add_assoc _ _ _))⟩)) | (go_at_call 45; (with_reducible refine (edits_count.calls ((rd_T72 l0 x14_1).f2) true _ A14.out).mono ?_); rintro e w' ⟨rfl, ⟨nd, rfl⟩⟩; (try first | exact ⟨rfl, _, World.drewN_drewN _ _ _⟩ | exact ⟨rfl, _, Eq.trans (World.drewN_drewN _ _ _) (congrArg (World.drewN _) (Nat.add_assoc _ _ _))⟩)) | (go_at_call 45; (with_reducible refine (edits_count.calls ((rd_T72 l0 x14_1).f3) true _ A16.out).mono ?_); rintro e w' ⟨rfl, ⟨nd, rfl⟩⟩; (try first | exact ⟨rfl, _, World.drewN_drewN _ _ _⟩ | exact ⟨rfl, _, Eq.trans (World.drewN_drewN _ _ _) (congrArg (World.drewN _) (Nat.add_assoc _ _ _))⟩)))
             repeat (go_quiet (first | (go_at_call 45; (with_reducible refine (edits_count.calls ((rd_T72 l0 x14_1).f0) true _ A10.out).mono ?_); rintro e w' ⟨rfl, ⟨nd, rfl⟩⟩; (try first | exact ⟨rfl, _, World.drewN_drewN _ _ _⟩ | exact ⟨rfl, _, Eq.trans (World.drewN_drewN _ _ _) (congrArg (World.drewN _) (Nat.add_assoc _ _ _))⟩)) | (go_at_call 45; (with_reducible refine (edits_count.calls ((rd_T72 l0 x14_1).f1) true _ A12.out).mono ?_); rintro e w' ⟨rfl, ⟨nd, rfl⟩⟩; (try first | exact ⟨rfl, _, World.drewN_drewN _ _ _⟩ | exact ⟨rfl, _, Eq.trans (World.drewN_drewN _ _ _) (congrArg (World.drewN _) (Nat.add_assoc _ _ _))⟩)) | (go_at_call 45; (with_reducible refine (edits_count.calls ((rd_T72 l0 x14_1).f2) true _ A14.out).mono ?_); rintro e w' ⟨rfl, ⟨nd, rfl⟩⟩; (try first | exact ⟨rfl, _, World.drewN_drewN _ _ _⟩ | exact ⟨rfl, _, Eq.trans (World.drewN_drewN _ _ _) (congrArg (World.drewN _) (Nat.add_assoc _ _ _))⟩)) | (go_at_call 45; (with_reducible refine (edits_count.calls ((rd_T72 l0 x14_1).f3) true _ A16.out).mono ?_); rintro e w' ⟨rfl, ⟨nd, rfl⟩⟩; (try first | exact ⟨rfl, _, World.drewN_drewN _ _ _⟩ | exact ⟨rfl, _, Eq.trans (World.drewN_drewN _ _ _) (congrArg (World.drewN _) (Nat.add_assoc _ _ _))⟩))); try go_wp2_with (first | (go_at_call 45; (with_reducible refine (edits_count.calls ((rd_T72 l0 x14_1).f0) true _ A10.out).mono ?_); rintro e w' ⟨rfl, ⟨nd, rfl⟩⟩; (try first | exact ⟨rfl, _, World.drewN_drewN _ _ _⟩ | exact ⟨rfl, _, Eq.trans (World.drewN_drewN _ _ _) (congrArg (World.drewN _) (Nat.add_assoc _ _ _))⟩)) | (go_at_call 45; (with_reducible refine (edits_count.calls ((rd_T72 l0 x14_1).f1) true _ A12.out).mono ?_); rintro e w' ⟨rfl, ⟨nd, rfl⟩⟩; (try first | exact ⟨rfl, _, World.drewN_drewN _ _ _⟩ | exact ⟨rfl, _, Eq.trans (World.drewN_drewN _ _ _) (congrArg (World.drewN _) (Nat.add_assoc _ _ _))⟩)) | (go_at_call 45; (with_reducible refine (edits_count.calls ((rd_T72 l0 x14_1).f2) true _ A14.out).mono ?_); rintro e w' ⟨rfl, ⟨nd, rfl⟩⟩; (try first | exact ⟨rfl, _, World.drewN_drewN _ _ _⟩ | exact ⟨rfl, _, Eq.trans (World.drewN_drewN _ _ _) (congrArg (World.drewN _) (Nat.add_assoc _ _ _))⟩)) | (go_at_call 45; (with_reducible refine (edits_count.calls ((rd_T72 l0 x14_1).f3) true _ A16.out).mono ?_); rintro e w' ⟨rfl, ⟨nd, rfl⟩⟩; (try first | exact ⟨rfl, _, World.drewN_drewN _ _ _⟩ | exact ⟨rfl, _, Eq.trans (World.drewN_drewN _ _ _) (congrArg (World.drewN _) (Nat.add_assoc _ _ _))⟩))))
             go_meet
             case rel => exact ⟨_, (false), (by first | rfl | (simp; done) | (simp [*]; done)), H', ⟨by have := HK1.out; first | omega | exact Nat.le_refl _⟩, ⟨by (with_reducible repeat (first | refine blk_drewN ?_ _ | refine blk_drew ?_ | refine blk_alloc ?_ _)); refine blk_put (cs := #[.int .i64 ((rd_T72 l0 x14_1).f0), .int .i64 ((rd_T72 l0 x14_1).f1), .int .i64 ((rd_T72 l0 x14_1).f2), .int .i64 0]) ?_ 3 _ rfl; (with_reducible repeat (first | refine blk_drewN ?_ _ | refine blk_drew ?_ | refine blk_alloc ?_ _)); refine blk_put (cs := #[.int .i64 ((rd_T72 l0 x14_1).f0), .int .i64 ((rd_T72 l0 x14_1).f1), .int .i64 0, .int .i64 0]) ?_ 2 _ rfl; (with_reducible repeat (first | refine blk_drewN ?_ _ | refine blk_drew ?_ | refine blk_alloc ?_ _)); refine blk_put (cs := #[.int .i64 ((rd_T72 l0 x14_1).f0), .int .i64 0, .int .i64 0, .int .i64 0]) ?_ 1 _ rfl; (with_reducible repeat (first | refine blk_drewN ?_ _ | refine blk_drew ?_ | refine blk_alloc ?_ _)); refine blk_put (cs := #[.int .i64 0, .int .i64 0, .int .i64 0, .int .i64 0]) ?_ 0 _ rfl; (with_reducible repeat (first | refine blk_drewN ?_ _ | refine blk_drew ?_ | refine blk_alloc ?_ _)); exact BK129.out⟩, ⟨by repeat (first | (with_reducible first | exact HB.out | apply below_alloc | apply pw_below_drewN | apply below_drew1 | refine below_set ?_ GE129.out) | exact HB.out)⟩⟩
           ·replace c17 := Bool.eq_false_iff.mpr c17
            subst c17
            have H1 : (edits_Check.j1 k1 a1 a2 x7_1 x8_1 x14_1 l0 (l0.length : Int) x14_1 true ((rd_T72 l0 x14_1).f0) ((rd_T72 l0 x14_1).f1) ((rd_T72 l0 x14_1).f2) ((rd_T72 l0 x14_1).f3)) = some r := by rw [if_neg (show ¬ (false = true) by decide)] at H; exact H
            clear H
            have H := H1
            clear H1
            have H' := Aside0.mk H
            clear H
            have hcz21_0 : w8.cell? ⟨gb129, 0, none⟩ = some (.int .i64 0) := (blk_cell BK129.out 0).trans rfl
            have hcz21_1 : w8.cell? ⟨gb129, 1, none⟩ = some (.int .i64 0) := (blk_cell BK129.out 1).trans rfl
            have hcz21_2 : w8.cell? ⟨gb129, 2, none⟩ = some (.int .i64 0) := (blk_cell BK129.out 2).trans rfl
            have hcz21_3 : w8.cell? ⟨gb129, 3, none⟩ = some (.int .i64 0) := (blk_cell BK129.out 3).trans rfl
            have hfz21_0 := blk_frozen BK129.out 0
            have hfz21_1 := blk_frozen BK129.out 1
            have hfz21_2 := blk_frozen BK129.out 2
            have hfz21_3 := blk_frozen BK129.out 3
            go_wp2_with (first | (go_at_call 45; (with_reducible refine (edits_count.calls ((rd_T72 l0 x14_1).f0) true _ A10.out).mono ?_); rintro e w' ⟨rfl, ⟨nd, rfl⟩⟩; (try first | exact ⟨rfl, _, World.drewN_drewN _ _ _⟩ | exact ⟨rfl, _, Eq.trans (World.drewN_drewN _ _ _) (congrArg (World.drewN _) (Nat.add_assoc _ _ _))⟩)) | (go_at_call 45; (with_reducible refine (edits_count.calls ((rd_T72 l0 x14_1).f1) true _ A12.out).mono ?_); rintro e w' ⟨rfl, ⟨nd, rfl⟩⟩; (try first | exact ⟨rfl, _, World.drewN_drewN _ _ _⟩ | exact ⟨rfl, _, Eq.trans (World.drewN_drewN _ _ _) (congrArg (World.drewN _) (Nat.add_assoc _ _ _))⟩)) | (go_at_call 45; (with_reducible refine (edits_count.calls ((rd_T72 l0 x14_1).f2) true _ A14.out).mono ?_); rintro e w' ⟨rfl, ⟨nd, rfl⟩⟩; (try first | exact ⟨rfl, _, World.drewN_drewN _ _ _⟩ | exact ⟨rfl, _, Eq.trans (World.drewN_drewN _ _ _) (congrArg (World.drewN _) (Nat.add_assoc _ _ _))⟩)) | (go_at_call 45; (with_reducible refine (edits_count.calls ((rd_T72 l0 x14_1).f3) false _ A16.out).mono ?_); rintro e w' ⟨rfl, ⟨nd, rfl⟩⟩; (try first | exact ⟨rfl, _, World.drewN_drewN _ _ _⟩ | exact ⟨rfl, _, Eq.trans (World.drewN_drewN _ _ _) (congrArg (World.drewN _) (Nat.add_assoc _ _ _))⟩)))
            repeat (go_quiet (first | (go_at_call 45; (with_reducible refine (edits_count.calls ((rd_T72 l0 x14_1).f0) true _ A10.out).mono ?_); rintro e w' ⟨rfl, ⟨nd, rfl⟩⟩; (try first | exact ⟨rfl, _, World.drewN_drewN _ _ _⟩ | exact ⟨rfl, _, Eq.trans (World.drewN_drewN _ _ _) (congrArg (World.drewN _) (Nat.add_assoc _ _ _))⟩)) | (go_at_call 45; (with_reducible refine (edits_count.calls ((rd_T72 l0 x14_1).f1) true _ A12.out).mono ?_); rintro e w' ⟨rfl, ⟨nd, rfl⟩⟩; (try first | exact ⟨rfl, _, World.drewN_drewN _ _ _⟩ | exact ⟨rfl, _, Eq.trans (World.drewN_drewN _ _ _) (congrArg (World.drewN _) (Nat.add_assoc _ _ _))⟩)) | (go_at_call 45; (with_reducible refine (edits_count.calls ((rd_T72 l0 x14_1).f2) true _ A14.out).mono ?_); rintro e w' ⟨rfl, ⟨nd, rfl⟩⟩; (try first | exact ⟨rfl, _, World.drewN_drewN _ _ _⟩ | exact ⟨rfl, _, Eq.trans (World.drewN_drewN _ _ _) (congrArg (World.drewN _) (Nat.add_assoc _ _ _))⟩)) | (go_at_call 45; (with_reducible refine (edits_count.calls ((rd_T72 l0 x14_1).f3) false _ A16.out).mono ?_); rintro e w' ⟨rfl, ⟨nd, rfl⟩⟩; (try first | exact ⟨rfl, _, World.drewN_drewN _ _ _⟩ | exact ⟨rfl, _, Eq.trans (World.drewN_drewN _ _ _) (congrArg (World.drewN _) (Nat.add_assoc _ _ _))⟩))); try go_wp2_with (first | (go_at_call 45; (with_reducible refine (edits_count.calls ((rd_T72 l0 x14_1).f0) true _ A10.out).mono ?_); rintro e w' ⟨rfl, ⟨nd, rfl⟩⟩; (try first | exact ⟨rfl, _, World.drewN_drewN _ _ _⟩ | exact ⟨rfl, _, Eq.trans (World.drewN_drewN _ _ _) (congrArg (World.drewN _) (Nat.add_assoc _ _ _))⟩)) | (go_at_call 45; (with_reducible refine (edits_count.calls ((rd_T72 l0 x14_1).f1) true _ A12.out).mono ?_); rintro e w' ⟨rfl, ⟨nd, rfl⟩⟩; (try first | exact ⟨rfl, _, World.drewN_drewN _ _ _⟩ | exact ⟨rfl, _, Eq.trans (World.drewN_drewN _ _ _) (congrArg (World.drewN _) (Nat.add_assoc _ _ _))⟩)) | (go_at_call 45; (with_reducible refine (edits_count.calls ((rd_T72 l0 x14_1).f2) true _ A14.out).mono ?_); rintro e w' ⟨rfl, ⟨nd, rfl⟩⟩; (try first | exact ⟨rfl, _, World.drewN_drewN _ _ _⟩ | exact ⟨rfl, _, Eq.trans (World.drewN_drewN _ _ _) (congrArg (World.drewN _) (Nat.add_assoc _ _ _))⟩)) | (go_at_call 45; (with_reducible refine (edits_count.calls ((rd_T72 l0 x14_1).f3) false _ A16.out).mono ?_); rintro e w' ⟨rfl, ⟨nd, rfl⟩⟩; (try first | exact ⟨rfl, _, World.drewN_drewN _ _ _⟩ | exact ⟨rfl, _, Eq.trans (World.drewN_drewN _ _ _) (congrArg (World.drewN _) (Nat.add_assoc _ _ _))⟩))))
            go_meet
            case rel => exact ⟨_, (true), (by first | rfl | (simp; done) | (simp [*]; done)), H', ⟨by have := HK1.out; first | omega | exact Nat.le_refl _⟩, ⟨by (with_reducible repeat (first | refine blk_drewN ?_ _ | refine blk_drew ?_ | refine blk_alloc ?_ _)); refine blk_put (cs := #[.int .i64 ((rd_T72 l0 x14_1).f0), .int .i64 ((rd_T72 l0 x14_1).f1), .int .i64 ((rd_T72 l0 x14_1).f2), .int .i64 0]) ?_ 3 _ rfl; (with_reducible repeat (first | refine blk_drewN ?_ _ | refine blk_drew ?_ | refine blk_alloc ?_ _)); refine blk_put (cs := #[.int .i64 ((rd_T72 l0 x14_1).f0), .int .i64 ((rd_T72 l0 x14_1).f1), .int .i64 0, .int .i64 0]) ?_ 2 _ rfl; (with_reducible repeat (first | refine blk_drewN ?_ _ | refine blk_drew ?_ | refine blk_alloc ?_ _)); refine blk_put (cs := #[.int .i64 ((rd_T72 l0 x14_1).f0), .int .i64 0, .int .i64 0, .int .i64 0]) ?_ 1 _ rfl; (with_reducible repeat (first | refine blk_drewN ?_ _ | refine blk_drew ?_ | refine blk_alloc ?_ _)); refine blk_put (cs := #[.int .i64 0, .int .i64 0, .int .i64 0, .int .i64 0]) ?_ 0 _ rfl; (with_reducible repeat (first | refine blk_drewN ?_ _ | refine blk_drew ?_ | refine blk_alloc ?_ _)); exact BK129.out⟩, ⟨by repeat (first | (with_reducible first | exact HB.out | apply below_alloc | apply pw_below_drewN | apply below_drew1 | refine below_set ?_ GE129.out) | exact HB.out)⟩⟩
          ·replace c15 := Bool.eq_false_iff.mpr c15
           subst c15
           have H1 : (edits_Check.j1 k1 a1 a2 x7_1 x8_1 x14_1 l0 (l0.length : Int) x14_1 true ((rd_T72 l0 x14_1).f0) ((rd_T72 l0 x14_1).f1) ((rd_T72 l0 x14_1).f2) ((rd_T72 l0 x14_1).f3)) = some r := by rw [if_neg (show ¬ (false = true) by decide)] at H; exact H
           clear H
           have H := H1
           clear H1
           have H' := Aside0.mk H
           clear H
           have hcz22_0 : w8.cell? ⟨gb129, 0, none⟩ = some (.int .i64 0) := (blk_cell BK129.out 0).trans rfl
           have hcz22_1 : w8.cell? ⟨gb129, 1, none⟩ = some (.int .i64 0) := (blk_cell BK129.out 1).trans rfl
           have hcz22_2 : w8.cell? ⟨gb129, 2, none⟩ = some (.int .i64 0) := (blk_cell BK129.out 2).trans rfl
           have hcz22_3 : w8.cell? ⟨gb129, 3, none⟩ = some (.int .i64 0) := (blk_cell BK129.out 3).trans rfl
           have hfz22_0 := blk_frozen BK129.out 0
           have hfz22_1 := blk_frozen BK129.out 1
           have hfz22_2 := blk_frozen BK129.out 2
           have hfz22_3 := blk_frozen BK129.out 3
           go_wp2_with (first | (go_at_call 45; (with_reducible refine (edits_count.calls ((rd_T72 l0 x14_1).f0) true _ A10.out).mono ?_); rintro e w' ⟨rfl, ⟨nd, rfl⟩⟩; (try first | exact ⟨rfl, _, World.drewN_drewN _ _ _⟩ | exact ⟨rfl, _, Eq.trans (World.drewN_drewN _ _ _) (congrArg (World.drewN _) (Nat.add_assoc _ _ _))⟩)) | (go_at_call 45; (with_reducible refine (edits_count.calls ((rd_T72 l0 x14_1).f1) true _ A12.out).mono ?_); rintro e w' ⟨rfl, ⟨nd, rfl⟩⟩; (try first | exact ⟨rfl, _, World.drewN_drewN _ _ _⟩ | exact ⟨rfl, _, Eq.trans (World.drewN_drewN _ _ _) (congrArg (World.drewN _) (Nat.add_assoc _ _ _))⟩)) | (go_at_call 45; (with_reducible refine (edits_count.calls ((rd_T72 l0 x14_1).f2) false _ A14.out).mono ?_); rintro e w' ⟨rfl, ⟨nd, rfl⟩⟩; (try first | exact ⟨rfl, _, World.drewN_drewN _ _ _⟩ | exact ⟨rfl, _, Eq.trans (World.drewN_drewN _ _ _) (congrArg (World.drewN _) (Nat.add_assoc _ _ _))⟩)))
           repeat (go_quiet (first | (go_at_call 45; (with_reducible refine (edits_count.calls ((rd_T72 l0 x14_1).f0) true _ A10.out).mono ?_); rintro e w' ⟨rfl, ⟨nd, rfl⟩⟩; (try first | exact ⟨rfl, _, World.drewN_drewN _ _ _⟩ | exact ⟨rfl, _, Eq.trans (World.drewN_drewN _ _ _) (congrArg (World.drewN _) (Nat.add_assoc _ _ _))⟩)) | (go_at_call 45; (with_reducible refine (edits_count.calls ((rd_T72 l0 x14_1).f1) true _ A12.out).mono ?_); rintro e w' ⟨rfl, ⟨nd, rfl⟩⟩; (try first | exact ⟨rfl, _, World.drewN_drewN _ _ _⟩ | exact ⟨rfl, _, Eq.trans (World.drewN_drewN _ _ _) (congrArg (World.drewN _) (Nat.add_assoc _ _ _))⟩)) | (go_at_call 45; (with_reducible refine (edits_count.calls ((rd_T72 l0 x14_1).f2) false _ A14.out).mono ?_); rintro e w' ⟨rfl, ⟨nd, rfl⟩⟩; (try first | exact ⟨rfl, _, World.drewN_drewN _ _ _⟩ | exact ⟨rfl, _, Eq.trans (World.drewN_drewN _ _ _) (congrArg (World.drewN _) (Nat.add_assoc _ _ _))⟩))); try go_wp2_with (first | (go_at_call 45; (with_reducible refine (edits_count.calls ((rd_T72 l0 x14_1).f0) true _ A10.out).mono ?_); rintro e w' ⟨rfl, ⟨nd, rfl⟩⟩; (try first | exact ⟨rfl, _, World.drewN_drewN _ _ _⟩ | exact ⟨rfl, _, Eq.trans (World.drewN_drewN _ _ _) (congrArg (World.drewN _) (Nat.add_assoc _ _ _))⟩)) | (go_at_call 45; (with_reducible refine (edits_count.calls ((rd_T72 l0 x14_1).f1) true _ A12.out).mono ?_); rintro e w' ⟨rfl, ⟨nd, rfl⟩⟩; (try first | exact ⟨rfl, _, World.drewN_drewN _ _ _⟩ | exact ⟨rfl, _, Eq.trans (World.drewN_drewN _ _ _) (congrArg (World.drewN _) (Nat.add_assoc _ _ _))⟩)) | (go_at_call 45; (with_reducible refine (edits_count.calls ((rd_T72 l0 x14_1).f2) false _ A14.out).mono ?_); rintro e w' ⟨rfl, ⟨nd, rfl⟩⟩; (try first | exact ⟨rfl, _, World.drewN_drewN _ _ _⟩ | exact ⟨rfl, _, Eq.trans (World.drewN_drewN _ _ _) (congrArg (World.drewN _) (Nat.add_assoc _ _ _))⟩))))
           go_meet
           case rel => exact ⟨_, (true), (by first | rfl | (simp; done) | (simp [*]; done)), H', ⟨by have := HK1.out; first | omega | exact Nat.le_refl _⟩, ⟨by (with_reducible repeat (first | refine blk_drewN ?_ _ | refine blk_drew ?_ | refine blk_alloc ?_ _)); refine blk_put (cs := #[.int .i64 ((rd_T72 l0 x14_1).f0), .int .i64 ((rd_T72 l0 x14_1).f1), .int .i64 ((rd_T72 l0 x14_1).f2), .int .i64 0]) ?_ 3 _ rfl; (with_reducible repeat (first | refine blk_drewN ?_ _ | refine blk_drew ?_ | refine blk_alloc ?_ _)); refine blk_put (cs := #[.int .i64 ((rd_T72 l0 x14_1).f0), .int .i64 ((rd_T72 l0 x14_1).f1), .int .i64 0, .int .i64 0]) ?_ 2 _ rfl; (with_reducible repeat (first | refine blk_drewN ?_ _ | refine blk_drew ?_ | refine blk_alloc ?_ _)); refine blk_put (cs := #[.int .i64 ((rd_T72 l0 x14_1).f0), .int .i64 0, .int .i64 0, .int .i64 0]) ?_ 1 _ rfl; (with_reducible repeat (first | refine blk_drewN ?_ _ | refine blk_drew ?_ | refine blk_alloc ?_ _)); refine blk_put (cs := #[.int .i64 0, .int .i64 0, .int .i64 0, .int .i64 0]) ?_ 0 _ rfl; (with_reducible repeat (first | refine blk_drewN ?_ _ | refine blk_drew ?_ | refine blk_alloc ?_ _)); exact BK129.out⟩, ⟨by repeat (first | (with_reducible first | exact HB.out | apply below_alloc | apply pw_below_drewN | apply below_drew1 | refine below_set ?_ GE129.out) | exact HB.out)⟩⟩
         ·replace c13 := Bool.eq_false_iff.mpr c13
          subst c13
          have H1 : (edits_Check.j1 k1 a1 a2 x7_1 x8_1 x14_1 l0 (l0.length : Int) x14_1 true ((rd_T72 l0 x14_1).f0) ((rd_T72 l0 x14_1).f1) ((rd_T72 l0 x14_1).f2) ((rd_T72 l0 x14_1).f3)) = some r := by rw [if_neg (show ¬ (false = true) by decide)] at H; exact H
          clear H
          have H := H1
          clear H1
          have H' := Aside0.mk H
          clear H
          have hcz23_0 : w8.cell? ⟨gb129, 0, none⟩ = some (.int .i64 0) := (blk_cell BK129.out 0).trans rfl
          have hcz23_1 : w8.cell? ⟨gb129, 1, none⟩ = some (.int .i64 0) := (blk_cell BK129.out 1).trans rfl
          have hcz23_2 : w8.cell? ⟨gb129, 2, none⟩ = some (.int .i64 0) := (blk_cell BK129.out 2).trans rfl
          have hcz23_3 : w8.cell? ⟨gb129, 3, none⟩ = some (.int .i64 0) := (blk_cell BK129.out 3).trans rfl
          have hfz23_0 := blk_frozen BK129.out 0
          have hfz23_1 := blk_frozen BK129.out 1
          have hfz23_2 := blk_frozen BK129.out 2
          have hfz23_3 := blk_frozen BK129.out 3
          go_wp2_with (first | (go_at_call 45; (with_reducible refine (edits_count.calls ((rd_T72 l0 x14_1).f0) true _ A10.out).mono ?_); rintro e w' ⟨rfl, ⟨nd, rfl⟩⟩; (try first | exact ⟨rfl, _, World.drewN_drewN _ _ _⟩ | exact ⟨rfl, _, Eq.trans (World.drewN_drewN _ _ _) (congrArg (World.drewN _) (Nat.add_assoc _ _ _))⟩)) | (go_at_call 45; (with_reducible refine (edits_count.calls ((rd_T72 l0 x14_1).f1) false _ A12.out).mono ?_); rintro e w' ⟨rfl, ⟨nd, rfl⟩⟩; (try first | exact ⟨rfl, _, World.drewN_drewN _ _ _⟩ | exact ⟨rfl, _, Eq.trans (World.drewN_drewN _ _ _) (congrArg (World.drewN _) (Nat.add_assoc _ _ _))⟩)))
          repeat (go_quiet (first | (go_at_call 45; (with_reducible refine (edits_count.calls ((rd_T72 l0 x14_1).f0) true _ A10.out).mono ?_); rintro e w' ⟨rfl, ⟨nd, rfl⟩⟩; (try first | exact ⟨rfl, _, World.drewN_drewN _ _ _⟩ | exact ⟨rfl, _, Eq.trans (World.drewN_drewN _ _ _) (congrArg (World.drewN _) (Nat.add_assoc _ _ _))⟩)) | (go_at_call 45; (with_reducible refine (edits_count.calls ((rd_T72 l0 x14_1).f1) false _ A12.out).mono ?_); rintro e w' ⟨rfl, ⟨nd, rfl⟩⟩; (try first | exact ⟨rfl, _, World.drewN_drewN _ _ _⟩ | exact ⟨rfl, _, Eq.trans (World.drewN_drewN _ _ _) (congrArg (World.drewN _) (Nat.add_assoc _ _ _))⟩))); try go_wp2_with (first | (go_at_call 45; (with_reducible refine (edits_count.calls ((rd_T72 l0 x14_1).f0) true _ A10.out).mono ?_); rintro e w' ⟨rfl, ⟨nd, rfl⟩⟩; (try first | exact ⟨rfl, _, World.drewN_drewN _ _ _⟩ | exact ⟨rfl, _, Eq.trans (World.drewN_drewN _ _ _) (congrArg (World.drewN _) (Nat.add_assoc _ _ _))⟩)) | (go_at_call 45; (with_reducible refine (edits_count.calls ((rd_T72 l0 x14_1).f1) false _ A12.out).mono ?_); rintro e w' ⟨rfl, ⟨nd, rfl⟩⟩; (try first | exact ⟨rfl, _, World.drewN_drewN _ _ _⟩ | exact ⟨rfl, _, Eq.trans (World.drewN_drewN _ _ _) (congrArg (World.drewN _) (Nat.add_assoc _ _ _))⟩))))
          go_meet
          case rel => exact ⟨_, (true), (by first | rfl | (simp; done) | (simp [*]; done)), H', ⟨by have := HK1.out; first | omega | exact Nat.le_refl _⟩, ⟨by (with_reducible repeat (first | refine blk_drewN ?_ _ | refine blk_drew ?_ | refine blk_alloc ?_ _)); refine blk_put (cs := #[.int .i64 ((rd_T72 l0 x14_1).f0), .int .i64 ((rd_T72 l0 x14_1).f1), .int .i64 ((rd_T72 l0 x14_1).f2), .int .i64 0]) ?_ 3 _ rfl; (with_reducible repeat (first | refine blk_drewN ?_ _ | refine blk_drew ?_ | refine blk_alloc ?_ _)); refine blk_put (cs := #[.int .i64 ((rd_T72 l0 x14_1).f0), .int .i64 ((rd_T72 l0 x14_1).f1), .int .i64 0, .int .i64 0]) ?_ 2 _ rfl; (with_reducible repeat (first | refine blk_drewN ?_ _ | refine blk_drew ?_ | refine blk_alloc ?_ _)); refine blk_put (cs := #[.int .i64 ((rd_T72 l0 x14_1).f0), .int .i64 0, .int .i64 0, .int .i64 0]) ?_ 1 _ rfl; (with_reducible repeat (first | refine blk_drewN ?_ _ | refine blk_drew ?_ | refine blk_alloc ?_ _)); refine blk_put (cs := #[.int .i64 0, .int .i64 0, .int .i64 0, .int .i64 0]) ?_ 0 _ rfl; (with_reducible repeat (first | refine blk_drewN ?_ _ | refine blk_drew ?_ | refine blk_alloc ?_ _)); exact BK129.out⟩, ⟨by repeat (first | (with_reducible first | exact HB.out | apply below_alloc | apply pw_below_drewN | apply below_drew1 | refine below_set ?_ GE129.out) | exact HB.out)⟩⟩
        ·replace c11 := Bool.eq_false_iff.mpr c11
         subst c11
         have H1 : (edits_Check.j1 k1 a1 a2 x7_1 x8_1 x14_1 l0 (l0.length : Int) x14_1 true ((rd_T72 l0 x14_1).f0) ((rd_T72 l0 x14_1).f1) ((rd_T72 l0 x14_1).f2) ((rd_T72 l0 x14_1).f3)) = some r := by rw [if_neg (show ¬ (false = true) by decide)] at H; exact H
         clear H
         have H := H1
         clear H1
         have H' := Aside0.mk H
         clear H
         have hcz24_0 : w8.cell? ⟨gb129, 0, none⟩ = some (.int .i64 0) := (blk_cell BK129.out 0).trans rfl
         have hcz24_1 : w8.cell? ⟨gb129, 1, none⟩ = some (.int .i64 0) := (blk_cell BK129.out 1).trans rfl
         have hcz24_2 : w8.cell? ⟨gb129, 2, none⟩ = some (.int .i64 0) := (blk_cell BK129.out 2).trans rfl
         have hcz24_3 : w8.cell? ⟨gb129, 3, none⟩ = some (.int .i64 0) := (blk_cell BK129.out 3).trans rfl
         have hfz24_0 := blk_frozen BK129.out 0
         have hfz24_1 := blk_frozen BK129.out 1
         have hfz24_2 := blk_frozen BK129.out 2
         have hfz24_3 := blk_frozen BK129.out 3
         go_wp2_with (first | (go_at_call 45; (with_reducible refine (edits_count.calls ((rd_T72 l0 x14_1).f0) false _ A10.out).mono ?_); rintro e w' ⟨rfl, ⟨nd, rfl⟩⟩; (try first | exact ⟨rfl, _, World.drewN_drewN _ _ _⟩ | exact ⟨rfl, _, Eq.trans (World.drewN_drewN _ _ _) (congrArg (World.drewN _) (Nat.add_assoc _ _ _))⟩)))
         repeat (go_quiet (first | (go_at_call 45; (with_reducible refine (edits_count.calls ((rd_T72 l0 x14_1).f0) false _ A10.out).mono ?_); rintro e w' ⟨rfl, ⟨nd, rfl⟩⟩; (try first | exact ⟨rfl, _, World.drewN_drewN _ _ _⟩ | exact ⟨rfl, _, Eq.trans (World.drewN_drewN _ _ _) (congrArg (World.drewN _) (Nat.add_assoc _ _ _))⟩))); try go_wp2_with (first | (go_at_call 45; (with_reducible refine (edits_count.calls ((rd_T72 l0 x14_1).f0) false _ A10.out).mono ?_); rintro e w' ⟨rfl, ⟨nd, rfl⟩⟩; (try first | exact ⟨rfl, _, World.drewN_drewN _ _ _⟩ | exact ⟨rfl, _, Eq.trans (World.drewN_drewN _ _ _) (congrArg (World.drewN _) (Nat.add_assoc _ _ _))⟩))))
         go_meet
         case rel => exact ⟨_, (true), (by first | rfl | (simp; done) | (simp [*]; done)), H', ⟨by have := HK1.out; first | omega | exact Nat.le_refl _⟩, ⟨by (with_reducible repeat (first | refine blk_drewN ?_ _ | refine blk_drew ?_ | refine blk_alloc ?_ _)); refine blk_put (cs := #[.int .i64 ((rd_T72 l0 x14_1).f0), .int .i64 ((rd_T72 l0 x14_1).f1), .int .i64 ((rd_T72 l0 x14_1).f2), .int .i64 0]) ?_ 3 _ rfl; (with_reducible repeat (first | refine blk_drewN ?_ _ | refine blk_drew ?_ | refine blk_alloc ?_ _)); refine blk_put (cs := #[.int .i64 ((rd_T72 l0 x14_1).f0), .int .i64 ((rd_T72 l0 x14_1).f1), .int .i64 0, .int .i64 0]) ?_ 2 _ rfl; (with_reducible repeat (first | refine blk_drewN ?_ _ | refine blk_drew ?_ | refine blk_alloc ?_ _)); refine blk_put (cs := #[.int .i64 ((rd_T72 l0 x14_1).f0), .int .i64 0, .int .i64 0, .int .i64 0]) ?_ 1 _ rfl; (with_reducible repeat (first | refine blk_drewN ?_ _ | refine blk_drew ?_ | refine blk_alloc ?_ _)); refine blk_put (cs := #[.int .i64 0, .int .i64 0, .int .i64 0, .int .i64 0]) ?_ 0 _ rfl; (with_reducible repeat (first | refine blk_drewN ?_ _ | refine blk_drew ?_ | refine blk_alloc ?_ _)); exact BK129.out⟩, ⟨by repeat (first | (with_reducible first | exact HB.out | apply below_alloc | apply pw_below_drewN | apply below_drew1 | refine below_set ?_ GE129.out) | exact HB.out)⟩⟩
       case rest =>
        clear HC7
        try clear c1
        try clear p1
        try clear q1
        try clear hx1
        try clear c2
        try clear p2
        try clear c4
        try clear c4b0
        try clear c5
        try clear c5b0
        try clear c6
        try clear c6b0
        try clear c11
        try clear p12
        try clear q12
        try clear hx12
        try clear c13
        try clear c15
        try clear c17
        try clear c18
        try clear c18b0
        try clear c18b1
        try clear hcz19_0
        try clear hcz19_1
        try clear hcz19_2
        try clear hcz19_3
        try clear hcz20_0
        try clear hcz20_1
        try clear hcz20_2
        try clear hcz20_3
        try clear hcz21_0
        try clear hcz21_1
        try clear hcz21_2
        try clear hcz21_3
        try clear hcz22_0
        try clear hcz22_1
        try clear hcz22_2
        try clear hcz22_3
        try clear hcz23_0
        try clear hcz23_1
        try clear hcz23_2
        try clear hcz23_3
        try clear hcz24_0
        try clear hcz24_1
        try clear hcz24_2
        try clear hcz24_3
        try clear hcz9_0
        try clear hcz9_1
        try clear hcz9_2
        try clear hcz9_3
        try clear hfz19_0
        try clear hfz19_1
        try clear hfz19_2
        try clear hfz19_3
        try clear hfz20_0
        try clear hfz20_1
        try clear hfz20_2
        try clear hfz20_3
        try clear hfz21_0
        try clear hfz21_1
        try clear hfz21_2
        try clear hfz21_3
        try clear hfz22_0
        try clear hfz22_1
        try clear hfz22_2
        try clear hfz22_3
        try clear hfz23_0
        try clear hfz23_1
        try clear hfz23_2
        try clear hfz23_3
        try clear hfz24_0
        try clear hfz24_1
        try clear hfz24_2
        try clear hfz24_3
        try clear hfz9_0
        try clear hfz9_1
        try clear hfz9_2
        try clear hfz9_3
        try clear hx128_0
        try clear hx128_1
        try clear hx128_2
        try clear hx128_3
        try clear p128
        try clear p2
        try clear q128
        obtain ⟨kq, x50_6, rfl, HA, HJ6, BK129, HB⟩ := hcut
        cases kq with
        | zero => exact absurd HA.out (by simp [edits_Check.j1])
        | succ kj6 =>
         have H := HA.out
         clear HA
         simp only [edits_Check.j1] at H
         by_cases c25 : x50_6 = true
         ·subst c25
          have H1 : (some 50) = some r := by rw [if_pos rfl] at H; exact H
          clear H
          have H := H1
          clear H1
          obtain rfl := Option.some.inj H
          go_wp2
          repeat (go_quiet (fail); try go_wp2)
          go_ret
          exact ⟨by first | rfl | (simp [errW_none, errW_some] <;> rfl) | (simp [*, errW_none, errW_some] <;> rfl), by repeat (first | (with_reducible first | exact HB.out | apply below_alloc | apply pw_below_drewN | apply below_drew1 | refine below_set ?_ GE129.out) | exact HB.out)⟩
         ·replace c25 := Bool.eq_false_iff.mpr c25
          subst c25
          have H1 : (if (wrap64 (((rd_T72 l0 x14_1).f0) - x7_1)) < 0 then (some 50) else (if x14_1 > 0 then (if (wrap64 (((rd_T72 l0 x14_1).f0) - x7_1)) = 0 then (some 50) else (if (wrap64 (((rd_T72 l0 x14_1).f0) - x7_1)) = (wrap64 (((rd_T72 l0 x14_1).f2) - x8_1)) then (edits_Check.l0 kj6 a1 a2 (wrap64 (((rd_T72 l0 x14_1).f0) + ((rd_T72 l0 x14_1).f1))) (wrap64 (((rd_T72 l0 x14_1).f2) + ((rd_T72 l0 x14_1).f3))) l0 (l0.length : Int) (wrap64 (x14_1 + 1))) else (some 50))) else (if (wrap64 (((rd_T72 l0 x14_1).f0) - x7_1)) = (wrap64 (((rd_T72 l0 x14_1).f2) - x8_1)) then (edits_Check.l0 kj6 a1 a2 (wrap64 (((rd_T72 l0 x14_1).f0) + ((rd_T72 l0 x14_1).f1))) (wrap64 (((rd_T72 l0 x14_1).f2) + ((rd_T72 l0 x14_1).f3))) l0 (l0.length : Int) (wrap64 (x14_1 + 1))) else (some 50)))) = some r := by rw [if_neg (show ¬ (false = true) by decide)] at H; exact H
          clear H
          have H := H1
          clear H1
          by_cases c26 : (wrap64 (((rd_T72 l0 x14_1).f0) - x7_1)) < 0
          ·rw [if_pos c26] at H
           have c26b0 : decide ((wrap64 (((rd_T72 l0 x14_1).f0) - x7_1)) < 0) = true := decide_eq_true c26
           clear c26
           obtain rfl := Option.some.inj H
           have hcz27_0 : wc.cell? ⟨gb129, 0, none⟩ = some (.int .i64 ((rd_T72 l0 x14_1).f0)) := (blk_cell BK129.out 0).trans rfl
           have hcz27_1 : wc.cell? ⟨gb129, 1, none⟩ = some (.int .i64 ((rd_T72 l0 x14_1).f1)) := (blk_cell BK129.out 1).trans rfl
           have hcz27_2 : wc.cell? ⟨gb129, 2, none⟩ = some (.int .i64 ((rd_T72 l0 x14_1).f2)) := (blk_cell BK129.out 2).trans rfl
           have hcz27_3 : wc.cell? ⟨gb129, 3, none⟩ = some (.int .i64 ((rd_T72 l0 x14_1).f3)) := (blk_cell BK129.out 3).trans rfl
           have hfz27_0 := blk_frozen BK129.out 0
           have hfz27_1 := blk_frozen BK129.out 1
           have hfz27_2 := blk_frozen BK129.out 2
           have hfz27_3 := blk_frozen BK129.out 3
           go_wp2
           repeat (go_quiet (fail); try go_wp2)
           go_ret
           exact ⟨by first | rfl | (simp [errW_none, errW_some] <;> rfl) | (simp [*, errW_none, errW_some] <;> rfl), by repeat (first | (with_reducible first | exact HB.out | apply below_alloc | apply pw_below_drewN | apply below_drew1 | refine below_set ?_ GE129.out) | exact HB.out)⟩
          ·rw [if_neg c26] at H
           have c26b0 : decide ((wrap64 (((rd_T72 l0 x14_1).f0) - x7_1)) < 0) = false := decide_eq_false c26
           clear c26
           by_cases c28 : x14_1 > 0
           ·rw [if_pos c28] at H
            have c28b0 : decide (0 < x14_1) = true := decide_eq_true c28
            clear c28
            by_cases c29 : (wrap64 (((rd_T72 l0 x14_1).f0) - x7_1)) = 0
            ·rw [if_pos c29] at H
             have c29b0 : ((wrap64 (((rd_T72 l0 x14_1).f0) - x7_1)) == 0) = true := beq_iff_eq.mpr c29
             have c29b1 : ((wrap64 (((rd_T72 l0 x14_1).f0) - x7_1)) != 0) = false := bne_eq_false_iff_eq.mpr c29
             clear c29
             obtain rfl := Option.some.inj H
             have hcz30_0 : wc.cell? ⟨gb129, 0, none⟩ = some (.int .i64 ((rd_T72 l0 x14_1).f0)) := (blk_cell BK129.out 0).trans rfl
             have hcz30_1 : wc.cell? ⟨gb129, 1, none⟩ = some (.int .i64 ((rd_T72 l0 x14_1).f1)) := (blk_cell BK129.out 1).trans rfl
             have hcz30_2 : wc.cell? ⟨gb129, 2, none⟩ = some (.int .i64 ((rd_T72 l0 x14_1).f2)) := (blk_cell BK129.out 2).trans rfl
             have hcz30_3 : wc.cell? ⟨gb129, 3, none⟩ = some (.int .i64 ((rd_T72 l0 x14_1).f3)) := (blk_cell BK129.out 3).trans rfl
             have hfz30_0 := blk_frozen BK129.out 0
             have hfz30_1 := blk_frozen BK129.out 1
             have hfz30_2 := blk_frozen BK129.out 2
             have hfz30_3 := blk_frozen BK129.out 3
             go_wp2
             repeat (go_quiet (fail); try go_wp2)
             go_ret
             exact ⟨by first | rfl | (simp [errW_none, errW_some] <;> rfl) | (simp [*, errW_none, errW_some] <;> rfl), by repeat (first | (with_reducible first | exact HB.out | apply below_alloc | apply pw_below_drewN | apply below_drew1 | refine below_set ?_ GE129.out) | exact HB.out)⟩
            ·rw [if_neg c29] at H
             have c29b0 : ((wrap64 (((rd_T72 l0 x14_1).f0) - x7_1)) == 0) = false := beq_eq_false_iff_ne.mpr c29
             have c29b1 : ((wrap64 (((rd_T72 l0 x14_1).f0) - x7_1)) != 0) = true := bne_iff_ne.mpr c29
             by_cases c31 : (wrap64 (((rd_T72 l0 x14_1).f0) - x7_1)) = (wrap64 (((rd_T72 l0 x14_1).f2) - x8_1))
             ·rw [if_pos c31] at H
              have c31b0 : ((wrap64 (((rd_T72 l0 x14_1).f0) - x7_1)) == (wrap64 (((rd_T72 l0 x14_1).f2) - x8_1))) = true := beq_iff_eq.mpr c31
              have c31b1 : ((wrap64 (((rd_T72 l0 x14_1).f0) - x7_1)) != (wrap64 (((rd_T72 l0 x14_1).f2) - x8_1))) = false := bne_eq_false_iff_eq.mpr c31
              clear c31
              have H' := Aside0.mk H
              clear H
              have hcz32_0 : wc.cell? ⟨gb129, 0, none⟩ = some (.int .i64 ((rd_T72 l0 x14_1).f0)) := (blk_cell BK129.out 0).trans rfl
              have hcz32_1 : wc.cell? ⟨gb129, 1, none⟩ = some (.int .i64 ((rd_T72 l0 x14_1).f1)) := (blk_cell BK129.out 1).trans rfl
              have hcz32_2 : wc.cell? ⟨gb129, 2, none⟩ = some (.int .i64 ((rd_T72 l0 x14_1).f2)) := (blk_cell BK129.out 2).trans rfl
              have hcz32_3 : wc.cell? ⟨gb129, 3, none⟩ = some (.int .i64 ((rd_T72 l0 x14_1).f3)) := (blk_cell BK129.out 3).trans rfl
              have hfz32_0 := blk_frozen BK129.out 0
              have hfz32_1 := blk_frozen BK129.out 1
              have hfz32_2 := blk_frozen BK129.out 2
              have hfz32_3 := blk_frozen BK129.out 3
              go_wp2
              repeat (go_quiet (fail); try go_wp2)
              go_roundg kj6
              case measure => have := HK1.out; have := HJ6.out; omega
              case rel => exact ⟨(wrap64 (((rd_T72 l0 x14_1).f0) + ((rd_T72 l0 x14_1).f1))), (wrap64 (((rd_T72 l0 x14_1).f2) + ((rd_T72 l0 x14_1).f3))), (wrap64 (x14_1 + 1)), (by first | rfl | (simp; done) | (simp [*]; done)), (by first | rfl | (simp; done) | (simp [*]; done)), (by first | rfl | (simp; done) | (simp [*]; done)), H', ⟨by have := HK1.out; have := HJ6.out; omega⟩, ⟨by repeat (first | (with_reducible first | exact HB.out | apply below_alloc | apply pw_below_drewN | apply below_drew1 | refine below_set ?_ GE129.out) | exact HB.out)⟩⟩
             ·rw [if_neg c31] at H
              have c31b0 : ((wrap64 (((rd_T72 l0 x14_1).f0) - x7_1)) == (wrap64 (((rd_T72 l0 x14_1).f2) - x8_1))) = false := beq_eq_false_iff_ne.mpr c31
              have c31b1 : ((wrap64 (((rd_T72 l0 x14_1).f0) - x7_1)) != (wrap64 (((rd_T72 l0 x14_1).f2) - x8_1))) = true := bne_iff_ne.mpr c31
              obtain rfl := Option.some.inj H
              have hcz33_0 : wc.cell? ⟨gb129, 0, none⟩ = some (.int .i64 ((rd_T72 l0 x14_1).f0)) := (blk_cell BK129.out 0).trans rfl
              have hcz33_1 : wc.cell? ⟨gb129, 1, none⟩ = some (.int .i64 ((rd_T72 l0 x14_1).f1)) := (blk_cell BK129.out 1).trans rfl
              have hcz33_2 : wc.cell? ⟨gb129, 2, none⟩ = some (.int .i64 ((rd_T72 l0 x14_1).f2)) := (blk_cell BK129.out 2).trans rfl
              have hcz33_3 : wc.cell? ⟨gb129, 3, none⟩ = some (.int .i64 ((rd_T72 l0 x14_1).f3)) := (blk_cell BK129.out 3).trans rfl
              have hfz33_0 := blk_frozen BK129.out 0
              have hfz33_1 := blk_frozen BK129.out 1
              have hfz33_2 := blk_frozen BK129.out 2
              have hfz33_3 := blk_frozen BK129.out 3
              go_wp2
              repeat (go_quiet (fail); try go_wp2)
              go_ret
              exact ⟨by first | rfl | (simp [errW_none, errW_some] <;> rfl) | (simp [*, errW_none, errW_some] <;> rfl), by repeat (first | (with_reducible first | exact HB.out | apply below_alloc | apply pw_below_drewN | apply below_drew1 | refine below_set ?_ GE129.out) | exact HB.out)⟩
           ·rw [if_neg c28] at H
            have c28b0 : decide (0 < x14_1) = false := decide_eq_false c28
            clear c28
            by_cases c34 : (wrap64 (((rd_T72 l0 x14_1).f0) - x7_1)) = (wrap64 (((rd_T72 l0 x14_1).f2) - x8_1))
            ·rw [if_pos c34] at H
             have c34b0 : ((wrap64 (((rd_T72 l0 x14_1).f0) - x7_1)) == (wrap64 (((rd_T72 l0 x14_1).f2) - x8_1))) = true := beq_iff_eq.mpr c34
             have c34b1 : ((wrap64 (((rd_T72 l0 x14_1).f0) - x7_1)) != (wrap64 (((rd_T72 l0 x14_1).f2) - x8_1))) = false := bne_eq_false_iff_eq.mpr c34
             clear c34
             have H' := Aside0.mk H
             clear H
             have hcz35_0 : wc.cell? ⟨gb129, 0, none⟩ = some (.int .i64 ((rd_T72 l0 x14_1).f0)) := (blk_cell BK129.out 0).trans rfl
             have hcz35_1 : wc.cell? ⟨gb129, 1, none⟩ = some (.int .i64 ((rd_T72 l0 x14_1).f1)) := (blk_cell BK129.out 1).trans rfl
             have hcz35_2 : wc.cell? ⟨gb129, 2, none⟩ = some (.int .i64 ((rd_T72 l0 x14_1).f2)) := (blk_cell BK129.out 2).trans rfl
             have hcz35_3 : wc.cell? ⟨gb129, 3, none⟩ = some (.int .i64 ((rd_T72 l0 x14_1).f3)) := (blk_cell BK129.out 3).trans rfl
             have hfz35_0 := blk_frozen BK129.out 0
             have hfz35_1 := blk_frozen BK129.out 1
             have hfz35_2 := blk_frozen BK129.out 2
             have hfz35_3 := blk_frozen BK129.out 3
             go_wp2
             repeat (go_quiet (fail); try go_wp2)
             go_roundg kj6
             case measure => have := HK1.out; have := HJ6.out; omega
             case rel => exact ⟨(wrap64 (((rd_T72 l0 x14_1).f0) + ((rd_T72 l0 x14_1).f1))), (wrap64 (((rd_T72 l0 x14_1).f2) + ((rd_T72 l0 x14_1).f3))), (wrap64 (x14_1 + 1)), (by first | rfl | (simp; done) | (simp [*]; done)), (by first | rfl | (simp; done) | (simp [*]; done)), (by first | rfl | (simp; done) | (simp [*]; done)), H', ⟨by have := HK1.out; have := HJ6.out; omega⟩, ⟨by repeat (first | (with_reducible first | exact HB.out | apply below_alloc | apply pw_below_drewN | apply below_drew1 | refine below_set ?_ GE129.out) | exact HB.out)⟩⟩
            ·rw [if_neg c34] at H
             have c34b0 : ((wrap64 (((rd_T72 l0 x14_1).f0) - x7_1)) == (wrap64 (((rd_T72 l0 x14_1).f2) - x8_1))) = false := beq_eq_false_iff_ne.mpr c34
             have c34b1 : ((wrap64 (((rd_T72 l0 x14_1).f0) - x7_1)) != (wrap64 (((rd_T72 l0 x14_1).f2) - x8_1))) = true := bne_iff_ne.mpr c34
             obtain rfl := Option.some.inj H
             have hcz36_0 : wc.cell? ⟨gb129, 0, none⟩ = some (.int .i64 ((rd_T72 l0 x14_1).f0)) := (blk_cell BK129.out 0).trans rfl
             have hcz36_1 : wc.cell? ⟨gb129, 1, none⟩ = some (.int .i64 ((rd_T72 l0 x14_1).f1)) := (blk_cell BK129.out 1).trans rfl
             have hcz36_2 : wc.cell? ⟨gb129, 2, none⟩ = some (.int .i64 ((rd_T72 l0 x14_1).f2)) := (blk_cell BK129.out 2).trans rfl
             have hcz36_3 : wc.cell? ⟨gb129, 3, none⟩ = some (.int .i64 ((rd_T72 l0 x14_1).f3)) := (blk_cell BK129.out 3).trans rfl
             have hfz36_0 := blk_frozen BK129.out 0
             have hfz36_1 := blk_frozen BK129.out 1
             have hfz36_2 := blk_frozen BK129.out 2
             have hfz36_3 := blk_frozen BK129.out 3
             go_wp2
             repeat (go_quiet (fail); try go_wp2)
             go_ret
             exact ⟨by first | rfl | (simp [errW_none, errW_some] <;> rfl) | (simp [*, errW_none, errW_some] <;> rfl), by repeat (first | (with_reducible first | exact HB.out | apply below_alloc | apply pw_below_drewN | apply below_drew1 | refine below_set ?_ GE129.out) | exact HB.out)⟩
      ·rw [if_neg c6] at H
       exact absurd H (by simp)
     ·rw [if_neg c5] at H
      exact absurd H (by simp)
    ·rw [if_neg c4] at H
     have c4b0 : decide (x14_1 < (l0.length : Int)) = false := decide_eq_false c4
     clear c4
     by_cases c37 : x7_1 > a1
     ·rw [if_pos c37] at H
      have c37b0 : decide (a1 < x7_1) = true := decide_eq_true c37
      clear c37
      obtain rfl := Option.some.inj H
      go_wp2
      repeat (go_quiet (fail); try go_wp2)
      go_ret
      exact ⟨by first | rfl | (simp [errW_none, errW_some] <;> rfl) | (simp [*, errW_none, errW_some] <;> rfl), by repeat (first | (with_reducible first | exact HB.out | apply below_alloc | apply pw_below_drewN | apply below_drew1) | exact HB.out)⟩
     ·rw [if_neg c37] at H
      have c37b0 : decide (a1 < x7_1) = false := decide_eq_false c37
      clear c37
      by_cases c38 : x8_1 > a2
      ·rw [if_pos c38] at H
       have c38b0 : decide (a2 < x8_1) = true := decide_eq_true c38
       clear c38
       obtain rfl := Option.some.inj H
       go_wp2
       repeat (go_quiet (fail); try go_wp2)
       go_ret
       exact ⟨by first | rfl | (simp [errW_none, errW_some] <;> rfl) | (simp [*, errW_none, errW_some] <;> rfl), by repeat (first | (with_reducible first | exact HB.out | apply below_alloc | apply pw_below_drewN | apply below_drew1) | exact HB.out)⟩
      ·rw [if_neg c38] at H
       have c38b0 : decide (a2 < x8_1) = false := decide_eq_false c38
       clear c38
       by_cases c39 : (wrap64 (a1 - x7_1)) = (wrap64 (a2 - x8_1))
       ·rw [if_pos c39] at H
        have c39b0 : ((wrap64 (a1 - x7_1)) == (wrap64 (a2 - x8_1))) = true := beq_iff_eq.mpr c39
        have c39b1 : ((wrap64 (a1 - x7_1)) != (wrap64 (a2 - x8_1))) = false := bne_eq_false_iff_eq.mpr c39
        clear c39
        obtain rfl := Option.some.inj H
        go_wp2
        repeat (go_quiet (fail); try go_wp2)
        go_ret
        exact ⟨by first | rfl | (simp [errW_none, errW_some] <;> rfl) | (simp [*, errW_none, errW_some] <;> rfl), by repeat (first | (with_reducible first | exact HB.out | apply below_alloc | apply pw_below_drewN | apply below_drew1) | exact HB.out)⟩
       ·rw [if_neg c39] at H
        have c39b0 : ((wrap64 (a1 - x7_1)) == (wrap64 (a2 - x8_1))) = false := beq_eq_false_iff_ne.mpr c39
        have c39b1 : ((wrap64 (a1 - x7_1)) != (wrap64 (a2 - x8_1))) = true := bne_iff_ne.mpr c39
        obtain rfl := Option.some.inj H
        go_wp2
        repeat (go_quiet (fail); try go_wp2)
        go_ret
        exact ⟨by first | rfl | (simp [errW_none, errW_some] <;> rfl) | (simp [*, errW_none, errW_some] <;> rfl), by repeat (first | (with_reducible first | exact HB.out | apply below_alloc | apply pw_below_drewN | apply below_drew1) | exact HB.out)⟩
end Go.Proofs.YtchhelmilbheoaaDoor.X
