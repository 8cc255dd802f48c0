import Derived.Test.YtchhelmilbheoaaDoorZAXx0
import Derived.Test.YtchhelmilbheoaaDoorZAXx45
namespace Go.Proofs.YtchhelmilbheoaaDoor.X
open Go.RowKit Go.Proofs.YtchhelmilbheoaaDoorW.PrintWords Go.Proofs.YtchhelmilbheoaaDoorW.PrintLast Go.Proofs.YtchhelmilbheoaaDoorW.PrintMore
attribute [local go_sem] max2_int min2_int max_two min_two max_three min_three max_four min_four   -- for this text's walks alone
open Go.Proofs.YtchhelmilbheoaaDoorW.HandWords
set_option linter.unusedVariables false
set_option linter.unusedSimpArgs false
mutual
def redlineref05_Check.j0 : Nat → List (S72) → Int → Int → Bool → Option (Int)
  | 0, _, _, _, _ => none
  | k + 1, x0, x1, x2, x16 => if x16 = true then (some 50) else (redlineref05_Check.l0 k x0 x1 x2 0 0 0)
def redlineref05_Check.l0 : Nat → List (S72) → Int → Int → Int → Int → Int → Option (Int)
  | 0, _, _, _, _, _, _ => none
  | k + 1, x0, x1, x2, x7, x8, x9 => if x9 < (x0.length : Int) then (if 0 ≤ x9 then ((redlineref05_count.f ((rd_T72 x0 x9).f0)).bind fun t123 => (if t123 = true then ((redlineref05_count.f ((rd_T72 x0 x9).f1)).bind fun t124 => (if t124 = true then ((redlineref05_count.f ((rd_T72 x0 x9).f2)).bind fun t125 => (if t125 = true then ((redlineref05_count.f ((rd_T72 x0 x9).f3)).bind fun t126 => (if t126 = true then (redlineref05_Check.j2 k x0 x1 x2 x7 x8 x9 ((wrap64 (((rd_T72 x0 x9).f1) + ((rd_T72 x0 x9).f3))) == 0) ((rd_T72 x0 x9).f0) ((rd_T72 x0 x9).f1) ((rd_T72 x0 x9).f2) ((rd_T72 x0 x9).f3)) else (redlineref05_Check.j2 k x0 x1 x2 x7 x8 x9 true ((rd_T72 x0 x9).f0) ((rd_T72 x0 x9).f1) ((rd_T72 x0 x9).f2) ((rd_T72 x0 x9).f3)))) else (redlineref05_Check.j2 k x0 x1 x2 x7 x8 x9 true ((rd_T72 x0 x9).f0) ((rd_T72 x0 x9).f1) ((rd_T72 x0 x9).f2) ((rd_T72 x0 x9).f3)))) else (redlineref05_Check.j2 k x0 x1 x2 x7 x8 x9 true ((rd_T72 x0 x9).f0) ((rd_T72 x0 x9).f1) ((rd_T72 x0 x9).f2) ((rd_T72 x0 x9).f3)))) else (redlineref05_Check.j2 k x0 x1 x2 x7 x8 x9 true ((rd_T72 x0 x9).f0) ((rd_T72 x0 x9).f1) ((rd_T72 x0 x9).f2) ((rd_T72 x0 x9).f3)))) else (none)) else (if x7 > x1 then (some 50) else (if x8 > x2 then (some 50) else (if (wrap64 (x1 - x7)) = (wrap64 (x2 - x8)) then (some 0) else (some 50))))
def redlineref05_Check.j2 : Nat → List (S72) → Int → Int → Int → Int → Int → Bool → Int → Int → Int → Int → Option (Int)
  | 0, _, _, _, _, _, _, _, _, _, _, _ => none
  | k + 1, x0, x1, x2, x7, x8, x9, x56, x123000, x123001, x123002, x123003 => if x56 = true then (some 50) else (if (wrap64 (x123000 - x7)) = (wrap64 (x123002 - x8)) then (if x123000 < x7 then (some 50) else (if x9 > 0 then (if x123000 = x7 then (some 50) else (redlineref05_Check.l0 k x0 x1 x2 (wrap64 (x123000 + x123001)) (wrap64 (x123002 + x123003)) (wrap64 (x9 + 1)))) else (redlineref05_Check.l0 k x0 x1 x2 (wrap64 (x123000 + x123001)) (wrap64 (x123002 + x123003)) (wrap64 (x9 + 1))))) else (some 50))
end
def redlineref05_Check.f (k : Nat) (l0 : List (S72)) (a1 : Int) (a2 : Int) : Option (Int) := if a1 < 0 then (redlineref05_Check.j0 k l0 a1 a2 true) else (redlineref05_Check.j0 k l0 a1 a2 (decide (a2 < 0)))
set_option maxHeartbeats 8000000 in
set_option maxRecDepth 100000 in
theorem redlineref05_Check.calls (k : Nat) (A0 : Option Addr) (c0 : Nat) (l0 : List (S72)) (a1 : Int) (a2 : Int) (r : Int) (w : World) (hr0 : Kd.C k72 w A0 l0.length l0) (hc0 : l0.length ≤ c0) (h : redlineref05_Check.f k l0 a1 a2 = some r) :
    Calls Tryd.prog 36 #[.slice A0 l0.length c0, .int .i64 a1, .int .i64 a2] w fun e w' => e = .returned (.int .i64 r) ∧ Below w.heap.size w w' := by
  have hu72 := Tryd.underlying72
  have HR0 := Aside0.mk hr0
  have HC0 := Aside0.mk hc0
  clear hr0 hc0
  have HB := Aside0.mk (Below.refl w.heap.size w)
  have H : (if a1 < 0 then (redlineref05_Check.j0 k l0 a1 a2 true) else (redlineref05_Check.j0 k l0 a1 a2 (decide (a2 < 0)))) = some r := h
  clear h
  have HC4 := Aside0.mk H
  clear H
  go_enter Tryd.func36, Tryd.ntmps36
  go_upto_region 1 with (fail)
  go_cut [16] (fun v16 wc => ∃ (kq : Nat) (x16_3 : Bool), v16 = .bool x16_3 ∧ Aside0 (redlineref05_Check.j0 kq l0 a1 a2 x16_3 = some r) ∧ Aside0 (kq ≤ k) ∧ Aside0 (Below w.heap.size w wc))
  case first =>
   have H := HC4.out
   clear HC4
   by_cases c5 : a1 < 0
   ·rw [if_pos c5] at H
    have c5b0 : decide (a1 < 0) = true := decide_eq_true c5
    clear c5
    (first | rw [c5b0] | rw [c5b1] | (simp only [i64_w, i32_w]; rw [c5b0]) | skip)
    have H' := Aside0.mk H
    clear H
    go_wp2
    go_meet
    case rel => exact ⟨_, (true), (by first | rfl | (simp; done) | (simp [*]; done)), H', ⟨by first | omega | exact Nat.le_refl _⟩, ⟨by repeat (first | (with_reducible first | exact HB.out | apply below_alloc | apply pw_below_drewN | apply below_drew1) | exact HB.out)⟩⟩
   ·rw [if_neg c5] at H
    have c5b0 : decide (a1 < 0) = false := decide_eq_false c5
    clear c5
    (first | rw [c5b0] | rw [c5b1] | (simp only [i64_w, i32_w]; rw [c5b0]) | skip)
    have H' := Aside0.mk H
    clear H
    go_wp2
    go_meet
    case rel => exact ⟨_, (decide (a2 < 0)), (by first | rfl | (simp; done) | (simp [*]; done)), H', ⟨by first | omega | exact Nat.le_refl _⟩, ⟨by repeat (first | (with_reducible first | exact HB.out | apply below_alloc | apply pw_below_drewN | apply below_drew1) | exact HB.out)⟩⟩
  case rest =>
   clear HC4
   try clear p2
   try clear c3
   try clear c5
   try clear c5b0
   try clear c5b1
   obtain ⟨kq, x16_3, rfl, HA, HJ3, HB⟩ := hcut
   cases kq with
   | zero => exact absurd HA.out (by simp [redlineref05_Check.j0])
   | succ kj3 =>
    have H := HA.out
    clear HA
    simp only [redlineref05_Check.j0] at H
    by_cases c6 : x16_3 = true
    ·subst c6
     have H1 : (some 50) = some r := by rw [if_pos rfl] at H; exact H
     clear H
     have H := H1
     clear H1
     obtain rfl := Option.some.inj H
     go_wp2
     go_ret
     exact ⟨by first | rfl | (simp [errW_none, errW_some] <;> rfl) | (simp [*, errW_none, errW_some] <;> rfl), by repeat (first | (with_reducible first | exact HB.out | apply below_alloc | apply pw_below_drewN | apply below_drew1) | exact HB.out)⟩
    ·replace c6 := Bool.eq_false_iff.mpr c6
     subst c6
     have H1 : (redlineref05_Check.l0 kj3 l0 a1 a2 0 0 0) = some r := by rw [if_neg (show ¬ (false = true) by decide)] at H; exact H
     clear H
     have H := H1
     clear H1
     have H' := Aside0.mk H
     clear H
     go_wp2
     go_loopg [7, 8, 9] kj3 (fun kq v7 v8 v9 w' => ∃ (x7_2 : Int) (x8_2 : Int) (x9_2 : Int), v7 = .int .i64 x7_2 ∧ v8 = .int .i64 x8_2 ∧ v9 = .int .i64 x9_2 ∧ Aside0 (redlineref05_Check.l0 kq l0 a1 a2 x7_2 x8_2 x9_2 = some r) ∧ Aside0 (kq ≤ kj3) ∧ Aside0 (Below w.heap.size w w'))
     case atStart => exact ⟨(0), (0), (0), (by first | rfl | (simp; done) | (simp [*]; done)), (by first | rfl | (simp; done) | (simp [*]; done)), (by first | rfl | (simp; done) | (simp [*]; done)), H', ⟨Nat.le_refl _⟩, ⟨by repeat (first | (with_reducible first | exact HB.out | apply below_alloc | apply pw_below_drewN | apply below_drew1) | exact HB.out)⟩⟩
     case round =>
      clear H'
      try clear p2
      try clear c3
      try clear c5
      try clear c5b0
      try clear c5b1
      try clear c6
      try clear p2
      obtain ⟨x7_2, x8_2, x9_2, rfl, rfl, rfl, HA, HK2, HB⟩ := hrel
      cases gk with
      | zero => exact absurd HA.out (by simp [redlineref05_Check.l0])
      | succ k2 =>
       have H := HA.out
       clear HA
       simp only [redlineref05_Check.l0] at H
       by_cases c7 : x9_2 < (l0.length : Int)
       ·rw [if_pos c7] at H
        have c7b0 : decide (x9_2 < (l0.length : Int)) = true := decide_eq_true c7
        clear c7
        by_cases c8 : 0 ≤ x9_2
        ·rw [if_pos c8] at H
         have c8b0 : decide (0 ≤ x9_2) = true := decide_eq_true c8
         clear c8
         have HC9 := Aside0.mk H
         clear H
         have p121 : 0 ≤ (x9_2 : Int) := of_decide_eq_true (by first | (with_reducible assumption) | assumption)
         have q121 : x9_2 < (l0.length : Int) := of_decide_eq_true (by first | (with_reducible assumption) | assumption)
         obtain ⟨ad121, e121, hx121_0, hx121_1, hx121_2, hx121_3⟩ := at_T72 HR0.out x9_2 p121 q121
         cases e121
         replace hx121_0 := (HB.out.cell (World.block_lt_of_cell? w _ hx121_0)).trans hx121_0
         replace hx121_1 := (HB.out.cell (World.block_lt_of_cell? w _ hx121_1)).trans hx121_1
         replace hx121_2 := (HB.out.cell (World.block_lt_of_cell? w _ hx121_2)).trans hx121_2
         replace hx121_3 := (HB.out.cell (World.block_lt_of_cell? w _ hx121_3)).trans hx121_3
         replace p121 := eq_true p121
         replace q121 := eq_true q121
         go_upto_region 8 with (first | ((with_reducible refine gate_dst (N := 10) rfl ?_); refine box_event ?hg (N := 10) ?hd (cs := #[.int .i64 0, .int .i64 0, .int .i64 0, .int .i64 0]) (t := 72) ?hr ?_; (case hd => rfl); (case hg => rfl); (case hr => first | (go_simp; done) | (go_simp; rfl)); intro gb122 hg w10 hbox hb; have n0_ := Aside0.mk (below_step (by repeat (first | (with_reducible first | exact HB.out | apply below_alloc | apply pw_below_drewN | apply below_drew1) | exact HB.out)) hb); have n1_ := Aside0.mk (hbox); have n2_ := Aside0.mk ((by rw [hg]; exact (below_size (by repeat (first | (with_reducible first | exact HB.out | apply below_alloc | apply pw_below_drewN | apply below_drew1) | exact HB.out))) : w.heap.size ≤ gb122)); have n3_ := Aside0.mk ((by rw [hg]; exact (below_size (by repeat (first | (with_reducible first | exact HB.out | apply below_alloc | apply pw_below_drewN | apply below_drew1) | exact HB.out))) : w.heap.size ≤ gb122)); clear HB; have HB := n0_; have BK122 := n1_; have GW122 := n2_; have GE122 := n3_; clear n0_ n1_ n2_ n3_; clear hb hbox hg; have hcz11_0 : w10.cell? ⟨gb122, 0, none⟩ = some (.int .i64 0) := (blk_cell BK122.out 0).trans rfl; have hcz11_1 : w10.cell? ⟨gb122, 1, none⟩ = some (.int .i64 0) := (blk_cell BK122.out 1).trans rfl; have hcz11_2 : w10.cell? ⟨gb122, 2, none⟩ = some (.int .i64 0) := (blk_cell BK122.out 2).trans rfl; have hcz11_3 : w10.cell? ⟨gb122, 3, none⟩ = some (.int .i64 0) := (blk_cell BK122.out 3).trans rfl; have hfz11_0 := blk_frozen BK122.out 0; have hfz11_1 := blk_frozen BK122.out 1; have hfz11_2 := blk_frozen BK122.out 2; have hfz11_3 := blk_frozen BK122.out 3))
         (try simp only [Act.put, List.setIfInBounds_toArray, List.set_cons_zero, List.set_cons_succ])
         go_cut [56] (fun v56 wc => ∃ (kq : Nat) (x56_8 : Bool), v56 = .bool x56_8 ∧ Aside0 (redlineref05_Check.j2 kq l0 a1 a2 x7_2 x8_2 x9_2 x56_8 ((rd_T72 l0 x9_2).f0) ((rd_T72 l0 x9_2).f1) ((rd_T72 l0 x9_2).f2) ((rd_T72 l0 x9_2).f3) = some r) ∧ Aside0 (kq ≤ k2) ∧ Aside0 (wc.heap[gb122]? = some (.cells #[.int .i64 ((rd_T72 l0 x9_2).f0), .int .i64 ((rd_T72 l0 x9_2).f1), .int .i64 ((rd_T72 l0 x9_2).f2), .int .i64 ((rd_T72 l0 x9_2).f3)] 72 (0, 0))) ∧ Aside0 (Below w.heap.size w wc))
         case first =>
          have H := HC9.out
          clear HC9
          replace H := Option.bind_eq_some_iff.mp H
          obtain ⟨t123, A120, H⟩ := H
          replace H : (if t123 = true then ((redlineref05_count.f ((rd_T72 l0 x9_2).f1)).bind fun t124 => (if t124 = true then ((redlineref05_count.f ((rd_T72 l0 x9_2).f2)).bind fun t125 => (if t125 = true then ((redlineref05_count.f ((rd_T72 l0 x9_2).f3)).bind fun t126 => (if t126 = true then (redlineref05_Check.j2 k2 l0 a1 a2 x7_2 x8_2 x9_2 ((wrap64 (((rd_T72 l0 x9_2).f1) + ((rd_T72 l0 x9_2).f3))) == 0) ((rd_T72 l0 x9_2).f0) ((rd_T72 l0 x9_2).f1) ((rd_T72 l0 x9_2).f2) ((rd_T72 l0 x9_2).f3)) else (redlineref05_Check.j2 k2 l0 a1 a2 x7_2 x8_2 x9_2 true ((rd_T72 l0 x9_2).f0) ((rd_T72 l0 x9_2).f1) ((rd_T72 l0 x9_2).f2) ((rd_T72 l0 x9_2).f3)))) else (redlineref05_Check.j2 k2 l0 a1 a2 x7_2 x8_2 x9_2 true ((rd_T72 l0 x9_2).f0) ((rd_T72 l0 x9_2).f1) ((rd_T72 l0 x9_2).f2) ((rd_T72 l0 x9_2).f3)))) else (redlineref05_Check.j2 k2 l0 a1 a2 x7_2 x8_2 x9_2 true ((rd_T72 l0 x9_2).f0) ((rd_T72 l0 x9_2).f1) ((rd_T72 l0 x9_2).f2) ((rd_T72 l0 x9_2).f3)))) else (redlineref05_Check.j2 k2 l0 a1 a2 x7_2 x8_2 x9_2 true ((rd_T72 l0 x9_2).f0) ((rd_T72 l0 x9_2).f1) ((rd_T72 l0 x9_2).f2) ((rd_T72 l0 x9_2).f3))) = some r := H
          have A12 := Aside0.mk A120
          clear A120
          by_cases c13 : t123 = true
          ·subst c13
           have H1 : ((redlineref05_count.f ((rd_T72 l0 x9_2).f1)).bind fun t124 => (if t124 = true then ((redlineref05_count.f ((rd_T72 l0 x9_2).f2)).bind fun t125 => (if t125 = true then ((redlineref05_count.f ((rd_T72 l0 x9_2).f3)).bind fun t126 => (if t126 = true then (redlineref05_Check.j2 k2 l0 a1 a2 x7_2 x8_2 x9_2 ((wrap64 (((rd_T72 l0 x9_2).f1) + ((rd_T72 l0 x9_2).f3))) == 0) ((rd_T72 l0 x9_2).f0) ((rd_T72 l0 x9_2).f1) ((rd_T72 l0 x9_2).f2) ((rd_T72 l0 x9_2).f3)) else (redlineref05_Check.j2 k2 l0 a1 a2 x7_2 x8_2 x9_2 true ((rd_T72 l0 x9_2).f0) ((rd_T72 l0 x9_2).f1) ((rd_T72 l0 x9_2).f2) ((rd_T72 l0 x9_2).f3)))) else (redlineref05_Check.j2 k2 l0 a1 a2 x7_2 x8_2 x9_2 true ((rd_T72 l0 x9_2).f0) ((rd_T72 l0 x9_2).f1) ((rd_T72 l0 x9_2).f2) ((rd_T72 l0 x9_2).f3)))) else (redlineref05_Check.j2 k2 l0 a1 a2 x7_2 x8_2 x9_2 true ((rd_T72 l0 x9_2).f0) ((rd_T72 l0 x9_2).f1) ((rd_T72 l0 x9_2).f2) ((rd_T72 l0 x9_2).f3)))) = some r := by rw [if_pos rfl] at H; exact H
           clear H
           have H := H1
           clear H1
           replace H := Option.bind_eq_some_iff.mp H
           obtain ⟨t124, A140, H⟩ := H
           replace H : (if t124 = true then ((redlineref05_count.f ((rd_T72 l0 x9_2).f2)).bind fun t125 => (if t125 = true then ((redlineref05_count.f ((rd_T72 l0 x9_2).f3)).bind fun t126 => (if t126 = true then (redlineref05_Check.j2 k2 l0 a1 a2 x7_2 x8_2 x9_2 ((wrap64 (((rd_T72 l0 x9_2).f1) + ((rd_T72 l0 x9_2).f3))) == 0) ((rd_T72 l0 x9_2).f0) ((rd_T72 l0 x9_2).f1) ((rd_T72 l0 x9_2).f2) ((rd_T72 l0 x9_2).f3)) else (redlineref05_Check.j2 k2 l0 a1 a2 x7_2 x8_2 x9_2 true ((rd_T72 l0 x9_2).f0) ((rd_T72 l0 x9_2).f1) ((rd_T72 l0 x9_2).f2) ((rd_T72 l0 x9_2).f3)))) else (redlineref05_Check.j2 k2 l0 a1 a2 x7_2 x8_2 x9_2 true ((rd_T72 l0 x9_2).f0) ((rd_T72 l0 x9_2).f1) ((rd_T72 l0 x9_2).f2) ((rd_T72 l0 x9_2).f3)))) else (redlineref05_Check.j2 k2 l0 a1 a2 x7_2 x8_2 x9_2 true ((rd_T72 l0 x9_2).f0) ((rd_T72 l0 x9_2).f1) ((rd_T72 l0 x9_2).f2) ((rd_T72 l0 x9_2).f3))) = some r := H
           have A14 := Aside0.mk A140
           clear A140
           by_cases c15 : t124 = true
           ·subst c15
            have H1 : ((redlineref05_count.f ((rd_T72 l0 x9_2).f2)).bind fun t125 => (if t125 = true then ((redlineref05_count.f ((rd_T72 l0 x9_2).f3)).bind fun t126 => (if t126 = true then (redlineref05_Check.j2 k2 l0 a1 a2 x7_2 x8_2 x9_2 ((wrap64 (((rd_T72 l0 x9_2).f1) + ((rd_T72 l0 x9_2).f3))) == 0) ((rd_T72 l0 x9_2).f0) ((rd_T72 l0 x9_2).f1) ((rd_T72 l0 x9_2).f2) ((rd_T72 l0 x9_2).f3)) else (redlineref05_Check.j2 k2 l0 a1 a2 x7_2 x8_2 x9_2 true ((rd_T72 l0 x9_2).f0) ((rd_T72 l0 x9_2).f1) ((rd_T72 l0 x9_2).f2) ((rd_T72 l0 x9_2).f3)))) else (redlineref05_Check.j2 k2 l0 a1 a2 x7_2 x8_2 x9_2 true ((rd_T72 l0 x9_2).f0) ((rd_T72 l0 x9_2).f1) ((rd_T72 l0 x9_2).f2) ((rd_T72 l0 x9_2).f3)))) = some r := by rw [if_pos rfl] at H; exact H
            clear H
            have H := H1
            clear H1
            replace H := Option.bind_eq_some_iff.mp H
            obtain ⟨t125, A160, H⟩ := H
            replace H : (if t125 = true then ((redlineref05_count.f ((rd_T72 l0 x9_2).f3)).bind fun t126 => (if t126 = true then (redlineref05_Check.j2 k2 l0 a1 a2 x7_2 x8_2 x9_2 ((wrap64 (((rd_T72 l0 x9_2).f1) + ((rd_T72 l0 x9_2).f3))) == 0) ((rd_T72 l0 x9_2).f0) ((rd_T72 l0 x9_2).f1) ((rd_T72 l0 x9_2).f2) ((rd_T72 l0 x9_2).f3)) else (redlineref05_Check.j2 k2 l0 a1 a2 x7_2 x8_2 x9_2 true ((rd_T72 l0 x9_2).f0) ((rd_T72 l0 x9_2).f1) ((rd_T72 l0 x9_2).f2) ((rd_T72 l0 x9_2).f3)))) else (redlineref05_Check.j2 k2 l0 a1 a2 x7_2 x8_2 x9_2 true ((rd_T72 l0 x9_2).f0) ((rd_T72 l0 x9_2).f1) ((rd_T72 l0 x9_2).f2) ((rd_T72 l0 x9_2).f3))) = some r := H
            have A16 := Aside0.mk A160
            clear A160
            by_cases c17 : t125 = true
            ·subst c17
             have H1 : ((redlineref05_count.f ((rd_T72 l0 x9_2).f3)).bind fun t126 => (if t126 = true then (redlineref05_Check.j2 k2 l0 a1 a2 x7_2 x8_2 x9_2 ((wrap64 (((rd_T72 l0 x9_2).f1) + ((rd_T72 l0 x9_2).f3))) == 0) ((rd_T72 l0 x9_2).f0) ((rd_T72 l0 x9_2).f1) ((rd_T72 l0 x9_2).f2) ((rd_T72 l0 x9_2).f3)) else (redlineref05_Check.j2 k2 l0 a1 a2 x7_2 x8_2 x9_2 true ((rd_T72 l0 x9_2).f0) ((rd_T72 l0 x9_2).f1) ((rd_T72 l0 x9_2).f2) ((rd_T72 l0 x9_2).f3)))) = some r := by rw [if_pos rfl] at H; exact H
             clear H
             have H := H1
             clear H1
             replace H := Option.bind_eq_some_iff.mp H
             obtain ⟨t126, A180, H⟩ := H
             replace H : (if t126 = true then (redlineref05_Check.j2 k2 l0 a1 a2 x7_2 x8_2 x9_2 ((wrap64 (((rd_T72 l0 x9_2).f1) + ((rd_T72 l0 x9_2).f3))) == 0) ((rd_T72 l0 x9_2).f0) ((rd_T72 l0 x9_2).f1) ((rd_T72 l0 x9_2).f2) ((rd_T72 l0 x9_2).f3)) else (redlineref05_Check.j2 k2 l0 a1 a2 x7_2 x8_2 x9_2 true ((rd_T72 l0 x9_2).f0) ((rd_T72 l0 x9_2).f1) ((rd_T72 l0 x9_2).f2) ((rd_T72 l0 x9_2).f3))) = some r := H
             have A18 := Aside0.mk A180
             clear A180
             by_cases c19 : t126 = true
             ·subst c19
              have H1 : (redlineref05_Check.j2 k2 l0 a1 a2 x7_2 x8_2 x9_2 ((wrap64 (((rd_T72 l0 x9_2).f1) + ((rd_T72 l0 x9_2).f3))) == 0) ((rd_T72 l0 x9_2).f0) ((rd_T72 l0 x9_2).f1) ((rd_T72 l0 x9_2).f2) ((rd_T72 l0 x9_2).f3)) = some r := by rw [if_pos rfl] at H; exact H
              clear H
              have H := H1
              clear H1
              have H' := Aside0.mk H
              clear H
              have hcz20_0 : w10.cell? ⟨gb122, 0, none⟩ = some (.int .i64 0) := (blk_cell BK122.out 0).trans rfl
              have hcz20_1 : w10.cell? ⟨gb122, 1, none⟩ = some (.int .i64 0) := (blk_cell BK122.out 1).trans rfl
              have hcz20_2 : w10.cell? ⟨gb122, 2, none⟩ = some (.int .i64 0) := (blk_cell BK122.out 2).trans rfl
              have hcz20_3 : w10.cell? ⟨gb122, 3, none⟩ = some (.int .i64 0) := (blk_cell BK122.out 3).trans rfl
              have hfz20_0 := blk_frozen BK122.out 0
              have hfz20_1 := blk_frozen BK122.out 1
              have hfz20_2 := blk_frozen BK122.out 2
              have hfz20_3 := blk_frozen BK122.out 3
              go_wp2_with (first | ((with_reducible refine gate_callee (f := 57) rfl ?_); refine goesL_ (some 29) rfl rfl Tryd.func57 (by kernel_rfl) rfl #[.int .i64 ((rd_T72 l0 x9_2).f0)] rfl (by (try simp only [List.map_toArray, List.map_cons, List.map_nil]); first | done | rfl | (simp only [List.length_drop, List.length_take]; rfl)) ?_; (with_reducible refine (redlineref05_count.calls ((rd_T72 l0 x9_2).f0) true _ A12.out).mono ?_); rintro e w' ⟨rfl, ⟨nd, rfl⟩⟩; refine ⟨_, rfl, ?_⟩) | (go_at_call 57; (with_reducible refine (redlineref05_count.calls ((rd_T72 l0 x9_2).f1) true _ A14.out).mono ?_); rintro e w' ⟨rfl, ⟨nd, rfl⟩⟩) | (go_at_call 57; (with_reducible refine (redlineref05_count.calls ((rd_T72 l0 x9_2).f2) true _ A16.out).mono ?_); rintro e w' ⟨rfl, ⟨nd, rfl⟩⟩) | (go_at_call 57; (with_reducible refine (redlineref05_count.calls ((rd_T72 l0 x9_2).f3) true _ A18.out).mono ?_); rintro e w' ⟨rfl, ⟨nd, rfl⟩⟩))
              go_meet
              case rel => exact ⟨_, (((wrap64 (((rd_T72 l0 x9_2).f1) + ((rd_T72 l0 x9_2).f3))) == 0)), (by first | rfl | (simp; done) | (simp [*]; done)), H', ⟨by have := HJ3.out; have := HK2.out; first | omega | exact Nat.le_refl _⟩, ⟨by (with_reducible repeat (first | refine blk_drewN ?_ _ | refine blk_drew ?_ | refine blk_alloc ?_ _)); refine blk_put (cs := #[.int .i64 ((rd_T72 l0 x9_2).f0), .int .i64 ((rd_T72 l0 x9_2).f1), .int .i64 ((rd_T72 l0 x9_2).f2), .int .i64 0]) ?_ 3 _ rfl; (with_reducible repeat (first | refine blk_drewN ?_ _ | refine blk_drew ?_ | refine blk_alloc ?_ _)); refine blk_put (cs := #[.int .i64 ((rd_T72 l0 x9_2).f0), .int .i64 ((rd_T72 l0 x9_2).f1), .int .i64 0, .int .i64 0]) ?_ 2 _ rfl; (with_reducible repeat (first | refine blk_drewN ?_ _ | refine blk_drew ?_ | refine blk_alloc ?_ _)); refine blk_put (cs := #[.int .i64 ((rd_T72 l0 x9_2).f0), .int .i64 0, .int .i64 0, .int .i64 0]) ?_ 1 _ rfl; (with_reducible repeat (first | refine blk_drewN ?_ _ | refine blk_drew ?_ | refine blk_alloc ?_ _)); refine blk_put (cs := #[.int .i64 0, .int .i64 0, .int .i64 0, .int .i64 0]) ?_ 0 _ rfl; (with_reducible repeat (first | refine blk_drewN ?_ _ | refine blk_drew ?_ | refine blk_alloc ?_ _)); exact BK122.out⟩, ⟨by repeat (first | (with_reducible first | exact HB.out | apply below_alloc | apply pw_below_drewN | apply below_drew1 | refine below_set ?_ GE122.out) | exact HB.out)⟩⟩
             ·replace c19 := Bool.eq_false_iff.mpr c19
              subst c19
              have H1 : (redlineref05_Check.j2 k2 l0 a1 a2 x7_2 x8_2 x9_2 true ((rd_T72 l0 x9_2).f0) ((rd_T72 l0 x9_2).f1) ((rd_T72 l0 x9_2).f2) ((rd_T72 l0 x9_2).f3)) = some r := by rw [if_neg (show ¬ (false = true) by decide)] at H; exact H
              clear H
              have H := H1
              clear H1
              have H' := Aside0.mk H
              clear H
              have hcz21_0 : w10.cell? ⟨gb122, 0, none⟩ = some (.int .i64 0) := (blk_cell BK122.out 0).trans rfl
              have hcz21_1 : w10.cell? ⟨gb122, 1, none⟩ = some (.int .i64 0) := (blk_cell BK122.out 1).trans rfl
              have hcz21_2 : w10.cell? ⟨gb122, 2, none⟩ = some (.int .i64 0) := (blk_cell BK122.out 2).trans rfl
              have hcz21_3 : w10.cell? ⟨gb122, 3, none⟩ = some (.int .i64 0) := (blk_cell BK122.out 3).trans rfl
              have hfz21_0 := blk_frozen BK122.out 0
              have hfz21_1 := blk_frozen BK122.out 1
              have hfz21_2 := blk_frozen BK122.out 2
              have hfz21_3 := blk_frozen BK122.out 3
              go_wp2_with (first | ((with_reducible refine gate_callee (f := 57) rfl ?_); refine goesL_ (some 29) rfl rfl Tryd.func57 (by kernel_rfl) rfl #[.int .i64 ((rd_T72 l0 x9_2).f0)] rfl (by (try simp only [List.map_toArray, List.map_cons, List.map_nil]); first | done | rfl | (simp only [List.length_drop, List.length_take]; rfl)) ?_; (with_reducible refine (redlineref05_count.calls ((rd_T72 l0 x9_2).f0) true _ A12.out).mono ?_); rintro e w' ⟨rfl, ⟨nd, rfl⟩⟩; refine ⟨_, rfl, ?_⟩) | (go_at_call 57; (with_reducible refine (redlineref05_count.calls ((rd_T72 l0 x9_2).f1) true _ A14.out).mono ?_); rintro e w' ⟨rfl, ⟨nd, rfl⟩⟩) | (go_at_call 57; (with_reducible refine (redlineref05_count.calls ((rd_T72 l0 x9_2).f2) true _ A16.out).mono ?_); rintro e w' ⟨rfl, ⟨nd, rfl⟩⟩) | (go_at_call 57; (with_reducible refine (redlineref05_count.calls ((rd_T72 l0 x9_2).f3) false _ A18.out).mono ?_); rintro e w' ⟨rfl, ⟨nd, rfl⟩⟩))
              go_meet
              case rel => exact ⟨_, (true), (by first | rfl | (simp; done) | (simp [*]; done)), H', ⟨by have := HJ3.out; have := HK2.out; first | omega | exact Nat.le_refl _⟩, ⟨by (with_reducible repeat (first | refine blk_drewN ?_ _ | refine blk_drew ?_ | refine blk_alloc ?_ _)); refine blk_put (cs := #[.int .i64 ((rd_T72 l0 x9_2).f0), .int .i64 ((rd_T72 l0 x9_2).f1), .int .i64 ((rd_T72 l0 x9_2).f2), .int .i64 0]) ?_ 3 _ rfl; (with_reducible repeat (first | refine blk_drewN ?_ _ | refine blk_drew ?_ | refine blk_alloc ?_ _)); refine blk_put (cs := #[.int .i64 ((rd_T72 l0 x9_2).f0), .int .i64 ((rd_T72 l0 x9_2).f1), .int .i64 0, .int .i64 0]) ?_ 2 _ rfl; (with_reducible repeat (first | refine blk_drewN ?_ _ | refine blk_drew ?_ | refine blk_alloc ?_ _)); refine blk_put (cs := #[.int .i64 ((rd_T72 l0 x9_2).f0), .int .i64 0, .int .i64 0, .int .i64 0]) ?_ 1 _ rfl; (with_reducible repeat (first | refine blk_drewN ?_ _ | refine blk_drew ?_ | refine blk_alloc ?_ _)); refine blk_put (cs := #[.int .i64 0, .int .i64 0, .int .i64 0, .int .i64 0]) ?_ 0 _ rfl; (with_reducible repeat (first | refine blk_drewN ?_ _ | refine blk_drew ?_ | refine blk_alloc ?_ _)); exact BK122.out⟩, ⟨by repeat (first | (with_reducible first | exact HB.out | apply below_alloc | apply pw_below_drewN | apply below_drew1 | refine below_set ?_ GE122.out) | exact HB.out)⟩⟩
            ·replace c17 := Bool.eq_false_iff.mpr c17
             subst c17
             have H1 : (redlineref05_Check.j2 k2 l0 a1 a2 x7_2 x8_2 x9_2 true ((rd_T72 l0 x9_2).f0) ((rd_T72 l0 x9_2).f1) ((rd_T72 l0 x9_2).f2) ((rd_T72 l0 x9_2).f3)) = some r := by rw [if_neg (show ¬ (false = true) by decide)] at H; exact H
             clear H
             have H := H1
             clear H1
             have H' := Aside0.mk H
             clear H
             have hcz22_0 : w10.cell? ⟨gb122, 0, none⟩ = some (.int .i64 0) := (blk_cell BK122.out 0).trans rfl
             have hcz22_1 : w10.cell? ⟨gb122, 1, none⟩ = some (.int .i64 0) := (blk_cell BK122.out 1).trans rfl
             have hcz22_2 : w10.cell? ⟨gb122, 2, none⟩ = some (.int .i64 0) := (blk_cell BK122.out 2).trans rfl
             have hcz22_3 : w10.cell? ⟨gb122, 3, none⟩ = some (.int .i64 0) := (blk_cell BK122.out 3).trans rfl
             have hfz22_0 := blk_frozen BK122.out 0
             have hfz22_1 := blk_frozen BK122.out 1
             have hfz22_2 := blk_frozen BK122.out 2
             have hfz22_3 := blk_frozen BK122.out 3
             go_wp2_with (first | ((with_reducible refine gate_callee (f := 57) rfl ?_); refine goesL_ (some 29) rfl rfl Tryd.func57 (by kernel_rfl) rfl #[.int .i64 ((rd_T72 l0 x9_2).f0)] rfl (by (try simp only [List.map_toArray, List.map_cons, List.map_nil]); first | done | rfl | (simp only [List.length_drop, List.length_take]; rfl)) ?_; (with_reducible refine (redlineref05_count.calls ((rd_T72 l0 x9_2).f0) true _ A12.out).mono ?_); rintro e w' ⟨rfl, ⟨nd, rfl⟩⟩; refine ⟨_, rfl, ?_⟩) | (go_at_call 57; (with_reducible refine (redlineref05_count.calls ((rd_T72 l0 x9_2).f1) true _ A14.out).mono ?_); rintro e w' ⟨rfl, ⟨nd, rfl⟩⟩) | (go_at_call 57; (with_reducible refine (redlineref05_count.calls ((rd_T72 l0 x9_2).f2) false _ A16.out).mono ?_); rintro e w' ⟨rfl, ⟨nd, rfl⟩⟩))
             go_meet
             case rel => exact ⟨_, (true), (by first | rfl | (simp; done) | (simp [*]; done)), H', ⟨by have := HJ3.out; have := HK2.out; first | omega | exact Nat.le_refl _⟩, ⟨by (with_reducible repeat (first | refine blk_drewN ?_ _ | refine blk_drew ?_ | refine blk_alloc ?_ _)); refine blk_put (cs := #[.int .i64 ((rd_T72 l0 x9_2).f0), .int .i64 ((rd_T72 l0 x9_2).f1), .int .i64 ((rd_T72 l0 x9_2).f2), .int .i64 0]) ?_ 3 _ rfl; (with_reducible repeat (first | refine blk_drewN ?_ _ | refine blk_drew ?_ | refine blk_alloc ?_ _)); refine blk_put (cs := #[.int .i64 ((rd_T72 l0 x9_2).f0), .int .i64 ((rd_T72 l0 x9_2).f1), .int .i64 0, .int .i64 0]) ?_ 2 _ rfl; (with_reducible repeat (first | refine blk_drewN ?_ _ | refine blk_drew ?_ | refine blk_alloc ?_ _)); refine blk_put (cs := #[.int .i64 ((rd_T72 l0 x9_2).f0), .int .i64 0, .int .i64 0, .int .i64 0]) ?_ 1 _ rfl; (with_reducible repeat (first | refine blk_drewN ?_ _ | refine blk_drew ?_ | refine blk_alloc ?_ _)); refine blk_put (cs := #[.int .i64 0, .int .i64 0, .int .i64 0, .int .i64 0]) ?_ 0 _ rfl; (with_reducible repeat (first | refine blk_drewN ?_ _ | refine blk_drew ?_ | refine blk_alloc ?_ _)); exact BK122.out⟩, ⟨by repeat (first | (with_reducible first | exact HB.out | apply below_alloc | apply pw_below_drewN | apply below_drew1 | refine below_set ?_ GE122.out) | exact HB.out)⟩⟩
           ·replace c15 := Bool.eq_false_iff.mpr c15
            subst c15
            have H1 : (redlineref05_Check.j2 k2 l0 a1 a2 x7_2 x8_2 x9_2 true ((rd_T72 l0 x9_2).f0) ((rd_T72 l0 x9_2).f1) ((rd_T72 l0 x9_2).f2) ((rd_T72 l0 x9_2).f3)) = some r := by rw [if_neg (show ¬ (false = true) by decide)] at H; exact H
            clear H
            have H := H1
            clear H1
            have H' := Aside0.mk H
            clear H
            have hcz23_0 : w10.cell? ⟨gb122, 0, none⟩ = some (.int .i64 0) := (blk_cell BK122.out 0).trans rfl
            have hcz23_1 : w10.cell? ⟨gb122, 1, none⟩ = some (.int .i64 0) := (blk_cell BK122.out 1).trans rfl
            have hcz23_2 : w10.cell? ⟨gb122, 2, none⟩ = some (.int .i64 0) := (blk_cell BK122.out 2).trans rfl
            have hcz23_3 : w10.cell? ⟨gb122, 3, none⟩ = some (.int .i64 0) := (blk_cell BK122.out 3).trans rfl
            have hfz23_0 := blk_frozen BK122.out 0
            have hfz23_1 := blk_frozen BK122.out 1
            have hfz23_2 := blk_frozen BK122.out 2
            have hfz23_3 := blk_frozen BK122.out 3
            go_wp2_with (first | ((with_reducible refine gate_callee (f := 57) rfl ?_); refine goesL_ (some 29) rfl rfl Tryd.func57 (by kernel_rfl) rfl #[.int .i64 ((rd_T72 l0 x9_2).f0)] rfl (by (try simp only [List.map_toArray, List.map_cons, List.map_nil]); first | done | rfl | (simp only [List.length_drop, List.length_take]; rfl)) ?_; (with_reducible refine (redlineref05_count.calls ((rd_T72 l0 x9_2).f0) true _ A12.out).mono ?_); rintro e w' ⟨rfl, ⟨nd, rfl⟩⟩; refine ⟨_, rfl, ?_⟩) | (go_at_call 57; (with_reducible refine (redlineref05_count.calls ((rd_T72 l0 x9_2).f1) false _ A14.out).mono ?_); rintro e w' ⟨rfl, ⟨nd, rfl⟩⟩))
            go_meet
            case rel => exact ⟨_, (true), (by first | rfl | (simp; done) | (simp [*]; done)), H', ⟨by have := HJ3.out; have := HK2.out; first | omega | exact Nat.le_refl _⟩, ⟨by (with_reducible repeat (first | refine blk_drewN ?_ _ | refine blk_drew ?_ | refine blk_alloc ?_ _)); refine blk_put (cs := #[.int .i64 ((rd_T72 l0 x9_2).f0), .int .i64 ((rd_T72 l0 x9_2).f1), .int .i64 ((rd_T72 l0 x9_2).f2), .int .i64 0]) ?_ 3 _ rfl; (with_reducible repeat (first | refine blk_drewN ?_ _ | refine blk_drew ?_ | refine blk_alloc ?_ _)); refine blk_put (cs := #[.int .i64 ((rd_T72 l0 x9_2).f0), .int .i64 ((rd_T72 l0 x9_2).f1), .int .i64 0, .int .i64 0]) ?_ 2 _ rfl; (with_reducible repeat (first | refine blk_drewN ?_ _ | refine blk_drew ?_ | refine blk_alloc ?_ _)); refine blk_put (cs := #[.int .i64 ((rd_T72 l0 x9_2).f0), .int .i64 0, .int .i64 0, .int .i64 0]) ?_ 1 _ rfl; (with_reducible repeat (first | refine blk_drewN ?_ _ | refine blk_drew ?_ | refine blk_alloc ?_ _)); refine blk_put (cs := #[.int .i64 0, .int .i64 0, .int .i64 0, .int .i64 0]) ?_ 0 _ rfl; (with_reducible repeat (first | refine blk_drewN ?_ _ | refine blk_drew ?_ | refine blk_alloc ?_ _)); exact BK122.out⟩, ⟨by repeat (first | (with_reducible first | exact HB.out | apply below_alloc | apply pw_below_drewN | apply below_drew1 | refine below_set ?_ GE122.out) | exact HB.out)⟩⟩
          ·replace c13 := Bool.eq_false_iff.mpr c13
           subst c13
           have H1 : (redlineref05_Check.j2 k2 l0 a1 a2 x7_2 x8_2 x9_2 true ((rd_T72 l0 x9_2).f0) ((rd_T72 l0 x9_2).f1) ((rd_T72 l0 x9_2).f2) ((rd_T72 l0 x9_2).f3)) = some r := by rw [if_neg (show ¬ (false = true) by decide)] at H; exact H
           clear H
           have H := H1
           clear H1
           have H' := Aside0.mk H
           clear H
           have hcz24_0 : w10.cell? ⟨gb122, 0, none⟩ = some (.int .i64 0) := (blk_cell BK122.out 0).trans rfl
           have hcz24_1 : w10.cell? ⟨gb122, 1, none⟩ = some (.int .i64 0) := (blk_cell BK122.out 1).trans rfl
           have hcz24_2 : w10.cell? ⟨gb122, 2, none⟩ = some (.int .i64 0) := (blk_cell BK122.out 2).trans rfl
           have hcz24_3 : w10.cell? ⟨gb122, 3, none⟩ = some (.int .i64 0) := (blk_cell BK122.out 3).trans rfl
           have hfz24_0 := blk_frozen BK122.out 0
           have hfz24_1 := blk_frozen BK122.out 1
           have hfz24_2 := blk_frozen BK122.out 2
           have hfz24_3 := blk_frozen BK122.out 3
           go_wp2_with (first | ((with_reducible refine gate_callee (f := 57) rfl ?_); refine goesL_ (some 29) rfl rfl Tryd.func57 (by kernel_rfl) rfl #[.int .i64 ((rd_T72 l0 x9_2).f0)] rfl (by (try simp only [List.map_toArray, List.map_cons, List.map_nil]); first | done | rfl | (simp only [List.length_drop, List.length_take]; rfl)) ?_; (with_reducible refine (redlineref05_count.calls ((rd_T72 l0 x9_2).f0) false _ A12.out).mono ?_); rintro e w' ⟨rfl, ⟨nd, rfl⟩⟩; refine ⟨_, rfl, ?_⟩))
           go_meet
           case rel => exact ⟨_, (true), (by first | rfl | (simp; done) | (simp [*]; done)), H', ⟨by have := HJ3.out; have := HK2.out; first | omega | exact Nat.le_refl _⟩, ⟨by (with_reducible repeat (first | refine blk_drewN ?_ _ | refine blk_drew ?_ | refine blk_alloc ?_ _)); refine blk_put (cs := #[.int .i64 ((rd_T72 l0 x9_2).f0), .int .i64 ((rd_T72 l0 x9_2).f1), .int .i64 ((rd_T72 l0 x9_2).f2), .int .i64 0]) ?_ 3 _ rfl; (with_reducible repeat (first | refine blk_drewN ?_ _ | refine blk_drew ?_ | refine blk_alloc ?_ _)); refine blk_put (cs := #[.int .i64 ((rd_T72 l0 x9_2).f0), .int .i64 ((rd_T72 l0 x9_2).f1), .int .i64 0, .int .i64 0]) ?_ 2 _ rfl; (with_reducible repeat (first | refine blk_drewN ?_ _ | refine blk_drew ?_ | refine blk_alloc ?_ _)); refine blk_put (cs := #[.int .i64 ((rd_T72 l0 x9_2).f0), .int .i64 0, .int .i64 0, .int .i64 0]) ?_ 1 _ rfl; (with_reducible repeat (first | refine blk_drewN ?_ _ | refine blk_drew ?_ | refine blk_alloc ?_ _)); refine blk_put (cs := #[.int .i64 0, .int .i64 0, .int .i64 0, .int .i64 0]) ?_ 0 _ rfl; (with_reducible repeat (first | refine blk_drewN ?_ _ | refine blk_drew ?_ | refine blk_alloc ?_ _)); exact BK122.out⟩, ⟨by repeat (first | (with_reducible first | exact HB.out | apply below_alloc | apply pw_below_drewN | apply below_drew1 | refine below_set ?_ GE122.out) | exact HB.out)⟩⟩
         case rest =>
          clear HC9
          try clear c1
          try clear p1
          try clear q1
          try clear hx1
          try clear p2
          try clear c3
          try clear c5
          try clear c5b0
          try clear c5b1
          try clear c6
          try clear p6
          try clear c7
          try clear c7b0
          try clear c8
          try clear c8b0
          try clear p12
          try clear q12
          try clear hx12
          try clear c13
          try clear c15
          try clear c17
          try clear c19
          try clear hcz11_0
          try clear hcz11_1
          try clear hcz11_2
          try clear hcz11_3
          try clear hcz20_0
          try clear hcz20_1
          try clear hcz20_2
          try clear hcz20_3
          try clear hcz21_0
          try clear hcz21_1
          try clear hcz21_2
          try clear hcz21_3
          try clear hcz22_0
          try clear hcz22_1
          try clear hcz22_2
          try clear hcz22_3
          try clear hcz23_0
          try clear hcz23_1
          try clear hcz23_2
          try clear hcz23_3
          try clear hcz24_0
          try clear hcz24_1
          try clear hcz24_2
          try clear hcz24_3
          try clear hfz11_0
          try clear hfz11_1
          try clear hfz11_2
          try clear hfz11_3
          try clear hfz20_0
          try clear hfz20_1
          try clear hfz20_2
          try clear hfz20_3
          try clear hfz21_0
          try clear hfz21_1
          try clear hfz21_2
          try clear hfz21_3
          try clear hfz22_0
          try clear hfz22_1
          try clear hfz22_2
          try clear hfz22_3
          try clear hfz23_0
          try clear hfz23_1
          try clear hfz23_2
          try clear hfz23_3
          try clear hfz24_0
          try clear hfz24_1
          try clear hfz24_2
          try clear hfz24_3
          try clear hx121_0
          try clear hx121_1
          try clear hx121_2
          try clear hx121_3
          try clear p121
          try clear p2
          try clear q121
          obtain ⟨kq, x56_8, rfl, HA, HJ8, BK122, HB⟩ := hcut
          cases kq with
          | zero => exact absurd HA.out (by simp [redlineref05_Check.j2])
          | succ kj8 =>
           have H := HA.out
           clear HA
           simp only [redlineref05_Check.j2] at H
           by_cases c25 : x56_8 = true
           ·subst c25
            have H1 : (some 50) = some r := by rw [if_pos rfl] at H; exact H
            clear H
            have H := H1
            clear H1
            obtain rfl := Option.some.inj H
            go_wp2
            go_ret
            exact ⟨by first | rfl | (simp [errW_none, errW_some] <;> rfl) | (simp [*, errW_none, errW_some] <;> rfl), by repeat (first | (with_reducible first | exact HB.out | apply below_alloc | apply pw_below_drewN | apply below_drew1 | refine below_set ?_ GE122.out) | exact HB.out)⟩
           ·replace c25 := Bool.eq_false_iff.mpr c25
            subst c25
            have H1 : (if (wrap64 (((rd_T72 l0 x9_2).f0) - x7_2)) = (wrap64 (((rd_T72 l0 x9_2).f2) - x8_2)) then (if ((rd_T72 l0 x9_2).f0) < x7_2 then (some 50) else (if x9_2 > 0 then (if ((rd_T72 l0 x9_2).f0) = x7_2 then (some 50) else (redlineref05_Check.l0 kj8 l0 a1 a2 (wrap64 (((rd_T72 l0 x9_2).f0) + ((rd_T72 l0 x9_2).f1))) (wrap64 (((rd_T72 l0 x9_2).f2) + ((rd_T72 l0 x9_2).f3))) (wrap64 (x9_2 + 1)))) else (redlineref05_Check.l0 kj8 l0 a1 a2 (wrap64 (((rd_T72 l0 x9_2).f0) + ((rd_T72 l0 x9_2).f1))) (wrap64 (((rd_T72 l0 x9_2).f2) + ((rd_T72 l0 x9_2).f3))) (wrap64 (x9_2 + 1))))) else (some 50)) = some r := by rw [if_neg (show ¬ (false = true) by decide)] at H; exact H
            clear H
            have H := H1
            clear H1
            by_cases c26 : (wrap64 (((rd_T72 l0 x9_2).f0) - x7_2)) = (wrap64 (((rd_T72 l0 x9_2).f2) - x8_2))
            ·rw [if_pos c26] at H
             have c26b0 : ((wrap64 (((rd_T72 l0 x9_2).f0) - x7_2)) == (wrap64 (((rd_T72 l0 x9_2).f2) - x8_2))) = true := beq_iff_eq.mpr c26
             have c26b1 : ((wrap64 (((rd_T72 l0 x9_2).f0) - x7_2)) != (wrap64 (((rd_T72 l0 x9_2).f2) - x8_2))) = false := bne_eq_false_iff_eq.mpr c26
             clear c26
             by_cases c27 : ((rd_T72 l0 x9_2).f0) < x7_2
             ·rw [if_pos c27] at H
              have c27b0 : decide (((rd_T72 l0 x9_2).f0) < x7_2) = true := decide_eq_true c27
              clear c27
              obtain rfl := Option.some.inj H
              have hcz28_0 : wc.cell? ⟨gb122, 0, none⟩ = some (.int .i64 ((rd_T72 l0 x9_2).f0)) := (blk_cell BK122.out 0).trans rfl
              have hcz28_1 : wc.cell? ⟨gb122, 1, none⟩ = some (.int .i64 ((rd_T72 l0 x9_2).f1)) := (blk_cell BK122.out 1).trans rfl
              have hcz28_2 : wc.cell? ⟨gb122, 2, none⟩ = some (.int .i64 ((rd_T72 l0 x9_2).f2)) := (blk_cell BK122.out 2).trans rfl
              have hcz28_3 : wc.cell? ⟨gb122, 3, none⟩ = some (.int .i64 ((rd_T72 l0 x9_2).f3)) := (blk_cell BK122.out 3).trans rfl
              have hfz28_0 := blk_frozen BK122.out 0
              have hfz28_1 := blk_frozen BK122.out 1
              have hfz28_2 := blk_frozen BK122.out 2
              have hfz28_3 := blk_frozen BK122.out 3
              go_wp2
              go_ret
              exact ⟨by first | rfl | (simp [errW_none, errW_some] <;> rfl) | (simp [*, errW_none, errW_some] <;> rfl), by repeat (first | (with_reducible first | exact HB.out | apply below_alloc | apply pw_below_drewN | apply below_drew1 | refine below_set ?_ GE122.out) | exact HB.out)⟩
             ·rw [if_neg c27] at H
              have c27b0 : decide (((rd_T72 l0 x9_2).f0) < x7_2) = false := decide_eq_false c27
              clear c27
              by_cases c29 : x9_2 > 0
              ·rw [if_pos c29] at H
               have c29b0 : decide (0 < x9_2) = true := decide_eq_true c29
               clear c29
               by_cases c30 : ((rd_T72 l0 x9_2).f0) = x7_2
               ·rw [if_pos c30] at H
                have c30b0 : (((rd_T72 l0 x9_2).f0) == x7_2) = true := beq_iff_eq.mpr c30
                have c30b1 : (((rd_T72 l0 x9_2).f0) != x7_2) = false := bne_eq_false_iff_eq.mpr c30
                clear c30
                obtain rfl := Option.some.inj H
                have hcz31_0 : wc.cell? ⟨gb122, 0, none⟩ = some (.int .i64 ((rd_T72 l0 x9_2).f0)) := (blk_cell BK122.out 0).trans rfl
                have hcz31_1 : wc.cell? ⟨gb122, 1, none⟩ = some (.int .i64 ((rd_T72 l0 x9_2).f1)) := (blk_cell BK122.out 1).trans rfl
                have hcz31_2 : wc.cell? ⟨gb122, 2, none⟩ = some (.int .i64 ((rd_T72 l0 x9_2).f2)) := (blk_cell BK122.out 2).trans rfl
                have hcz31_3 : wc.cell? ⟨gb122, 3, none⟩ = some (.int .i64 ((rd_T72 l0 x9_2).f3)) := (blk_cell BK122.out 3).trans rfl
                have hfz31_0 := blk_frozen BK122.out 0
                have hfz31_1 := blk_frozen BK122.out 1
                have hfz31_2 := blk_frozen BK122.out 2
                have hfz31_3 := blk_frozen BK122.out 3
                go_wp2
                go_ret
                exact ⟨by first | rfl | (simp [errW_none, errW_some] <;> rfl) | (simp [*, errW_none, errW_some] <;> rfl), by repeat (first | (with_reducible first | exact HB.out | apply below_alloc | apply pw_below_drewN | apply below_drew1 | refine below_set ?_ GE122.out) | exact HB.out)⟩
               ·rw [if_neg c30] at H
                have c30b0 : (((rd_T72 l0 x9_2).f0) == x7_2) = false := beq_eq_false_iff_ne.mpr c30
                have c30b1 : (((rd_T72 l0 x9_2).f0) != x7_2) = true := bne_iff_ne.mpr c30
                have H' := Aside0.mk H
                clear H
                have hcz32_0 : wc.cell? ⟨gb122, 0, none⟩ = some (.int .i64 ((rd_T72 l0 x9_2).f0)) := (blk_cell BK122.out 0).trans rfl
                have hcz32_1 : wc.cell? ⟨gb122, 1, none⟩ = some (.int .i64 ((rd_T72 l0 x9_2).f1)) := (blk_cell BK122.out 1).trans rfl
                have hcz32_2 : wc.cell? ⟨gb122, 2, none⟩ = some (.int .i64 ((rd_T72 l0 x9_2).f2)) := (blk_cell BK122.out 2).trans rfl
                have hcz32_3 : wc.cell? ⟨gb122, 3, none⟩ = some (.int .i64 ((rd_T72 l0 x9_2).f3)) := (blk_cell BK122.out 3).trans rfl
                have hfz32_0 := blk_frozen BK122.out 0
                have hfz32_1 := blk_frozen BK122.out 1
                have hfz32_2 := blk_frozen BK122.out 2
                have hfz32_3 := blk_frozen BK122.out 3
                go_wp2
                go_roundg kj8
                case measure => have := HJ3.out; have := HK2.out; have := HJ8.out; omega
                case rel => exact ⟨(wrap64 (((rd_T72 l0 x9_2).f0) + ((rd_T72 l0 x9_2).f1))), (wrap64 (((rd_T72 l0 x9_2).f2) + ((rd_T72 l0 x9_2).f3))), (wrap64 (x9_2 + 1)), (by first | rfl | (simp; done) | (simp [*]; done)), (by first | rfl | (simp; done) | (simp [*]; done)), (by first | rfl | (simp; done) | (simp [*]; done)), H', ⟨by have := HJ3.out; have := HK2.out; have := HJ8.out; omega⟩, ⟨by repeat (first | (with_reducible first | exact HB.out | apply below_alloc | apply pw_below_drewN | apply below_drew1 | refine below_set ?_ GE122.out) | exact HB.out)⟩⟩
              ·rw [if_neg c29] at H
               have c29b0 : decide (0 < x9_2) = false := decide_eq_false c29
               clear c29
               have H' := Aside0.mk H
               clear H
               have hcz33_0 : wc.cell? ⟨gb122, 0, none⟩ = some (.int .i64 ((rd_T72 l0 x9_2).f0)) := (blk_cell BK122.out 0).trans rfl
               have hcz33_1 : wc.cell? ⟨gb122, 1, none⟩ = some (.int .i64 ((rd_T72 l0 x9_2).f1)) := (blk_cell BK122.out 1).trans rfl
               have hcz33_2 : wc.cell? ⟨gb122, 2, none⟩ = some (.int .i64 ((rd_T72 l0 x9_2).f2)) := (blk_cell BK122.out 2).trans rfl
               have hcz33_3 : wc.cell? ⟨gb122, 3, none⟩ = some (.int .i64 ((rd_T72 l0 x9_2).f3)) := (blk_cell BK122.out 3).trans rfl
               have hfz33_0 := blk_frozen BK122.out 0
               have hfz33_1 := blk_frozen BK122.out 1
               have hfz33_2 := blk_frozen BK122.out 2
               have hfz33_3 := blk_frozen BK122.out 3
               go_wp2
               go_roundg kj8
               case measure => have := HJ3.out; have := HK2.out; have := HJ8.out; omega
               case rel => exact ⟨(wrap64 (((rd_T72 l0 x9_2).f0) + ((rd_T72 l0 x9_2).f1))), (wrap64 (((rd_T72 l0 x9_2).f2) + ((rd_T72 l0 x9_2).f3))), (wrap64 (x9_2 + 1)), (by first | rfl | (simp; done) | (simp [*]; done)), (by first | rfl | (simp; done) | (simp [*]; done)), (by first | rfl | (simp; done) | (simp [*]; done)), H', ⟨by have := HJ3.out; have := HK2.out; have := HJ8.out; omega⟩, ⟨by repeat (first | (with_reducible first | exact HB.out | apply below_alloc | apply pw_below_drewN | apply below_drew1 | refine below_set ?_ GE122.out) | exact HB.out)⟩⟩
            ·rw [if_neg c26] at H
             have c26b0 : ((wrap64 (((rd_T72 l0 x9_2).f0) - x7_2)) == (wrap64 (((rd_T72 l0 x9_2).f2) - x8_2))) = false := beq_eq_false_iff_ne.mpr c26
             have c26b1 : ((wrap64 (((rd_T72 l0 x9_2).f0) - x7_2)) != (wrap64 (((rd_T72 l0 x9_2).f2) - x8_2))) = true := bne_iff_ne.mpr c26
             obtain rfl := Option.some.inj H
             have hcz34_0 : wc.cell? ⟨gb122, 0, none⟩ = some (.int .i64 ((rd_T72 l0 x9_2).f0)) := (blk_cell BK122.out 0).trans rfl
             have hcz34_1 : wc.cell? ⟨gb122, 1, none⟩ = some (.int .i64 ((rd_T72 l0 x9_2).f1)) := (blk_cell BK122.out 1).trans rfl
             have hcz34_2 : wc.cell? ⟨gb122, 2, none⟩ = some (.int .i64 ((rd_T72 l0 x9_2).f2)) := (blk_cell BK122.out 2).trans rfl
             have hcz34_3 : wc.cell? ⟨gb122, 3, none⟩ = some (.int .i64 ((rd_T72 l0 x9_2).f3)) := (blk_cell BK122.out 3).trans rfl
             have hfz34_0 := blk_frozen BK122.out 0
             have hfz34_1 := blk_frozen BK122.out 1
             have hfz34_2 := blk_frozen BK122.out 2
             have hfz34_3 := blk_frozen BK122.out 3
             go_wp2
             go_ret
             exact ⟨by first | rfl | (simp [errW_none, errW_some] <;> rfl) | (simp [*, errW_none, errW_some] <;> rfl), by repeat (first | (with_reducible first | exact HB.out | apply below_alloc | apply pw_below_drewN | apply below_drew1 | refine below_set ?_ GE122.out) | exact HB.out)⟩
        ·rw [if_neg c8] at H
         exact absurd H (by simp)
       ·rw [if_neg c7] at H
        have c7b0 : decide (x9_2 < (l0.length : Int)) = false := decide_eq_false c7
        clear c7
        by_cases c35 : x7_2 > a1
        ·rw [if_pos c35] at H
         have c35b0 : decide (a1 < x7_2) = true := decide_eq_true c35
         clear c35
         obtain rfl := Option.some.inj H
         go_wp2
         go_ret
         exact ⟨by first | rfl | (simp [errW_none, errW_some] <;> rfl) | (simp [*, errW_none, errW_some] <;> rfl), by repeat (first | (with_reducible first | exact HB.out | apply below_alloc | apply pw_below_drewN | apply below_drew1) | exact HB.out)⟩
        ·rw [if_neg c35] at H
         have c35b0 : decide (a1 < x7_2) = false := decide_eq_false c35
         clear c35
         by_cases c36 : x8_2 > a2
         ·rw [if_pos c36] at H
          have c36b0 : decide (a2 < x8_2) = true := decide_eq_true c36
          clear c36
          obtain rfl := Option.some.inj H
          go_wp2
          go_ret
          exact ⟨by first | rfl | (simp [errW_none, errW_some] <;> rfl) | (simp [*, errW_none, errW_some] <;> rfl), by repeat (first | (with_reducible first | exact HB.out | apply below_alloc | apply pw_below_drewN | apply below_drew1) | exact HB.out)⟩
         ·rw [if_neg c36] at H
          have c36b0 : decide (a2 < x8_2) = false := decide_eq_false c36
          clear c36
          by_cases c37 : (wrap64 (a1 - x7_2)) = (wrap64 (a2 - x8_2))
          ·rw [if_pos c37] at H
           have c37b0 : ((wrap64 (a1 - x7_2)) == (wrap64 (a2 - x8_2))) = true := beq_iff_eq.mpr c37
           have c37b1 : ((wrap64 (a1 - x7_2)) != (wrap64 (a2 - x8_2))) = false := bne_eq_false_iff_eq.mpr c37
           clear c37
           obtain rfl := Option.some.inj H
           go_wp2
           go_ret
           exact ⟨by first | rfl | (simp [errW_none, errW_some] <;> rfl) | (simp [*, errW_none, errW_some] <;> rfl), by repeat (first | (with_reducible first | exact HB.out | apply below_alloc | apply pw_below_drewN | apply below_drew1) | exact HB.out)⟩
          ·rw [if_neg c37] at H
           have c37b0 : ((wrap64 (a1 - x7_2)) == (wrap64 (a2 - x8_2))) = false := beq_eq_false_iff_ne.mpr c37
           have c37b1 : ((wrap64 (a1 - x7_2)) != (wrap64 (a2 - x8_2))) = true := bne_iff_ne.mpr c37
           obtain rfl := Option.some.inj H
           go_wp2
           go_ret
           exact ⟨by first | rfl | (simp [errW_none, errW_some] <;> rfl) | (simp [*, errW_none, errW_some] <;> rfl), by repeat (first | (with_reducible first | exact HB.out | apply below_alloc | apply pw_below_drewN | apply below_drew1) | exact HB.out)⟩
end Go.Proofs.YtchhelmilbheoaaDoor.X
