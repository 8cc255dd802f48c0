import Derived.Test.YtglffceopijogaaZSXx0
import Derived.Test.YtglffceopijogaaZSXx24
import Derived.Test.YtglffceopijogaaZSXx25
import Derived.Test.YtglffceopijogaaZSXx29
import Derived.Test.YtglffceopijogaaZSXx30
namespace Go.Proofs.Ytglffceopijogaa.X
open Go.RowKit Go.Proofs.YtglffceopijogaaW.PrintWords Go.Proofs.YtglffceopijogaaW.PrintLast Go.Proofs.YtglffceopijogaaW.PrintMore
attribute [local go_sem] max2_int min2_int max_two min_two max_three min_three max_four min_four   -- for this text's walks alone
open Go.Proofs.YtglffceopijogaaW.HandWords
set_option linter.unusedVariables false
set_option linter.unusedSimpArgs false
mutual
def redlineref21_Merge.l0 : Nat → List (S97) → List ByteArray → List ByteArray → List ByteArray → Int → Option (ByteArray × Int)
  | 0, _, _, _, _, _ => none
  | k + 1, x0, x1, x2, x3, x11 => if x11 < (x3.length : Int) then (if 0 ≤ x11 then ((redlineref21_said.f (rdOf ByteArray.empty x3 x11) (⟨#[]⟩ : ByteArray) (⟨#[]⟩ : ByteArray)).bind fun bt166 => (if bt166.2 = true then (redlineref21_Merge.l0 k x0 x1 x2 x3 (wrap64 (x11 + 1))) else (some ((⟨#[]⟩ : ByteArray), 210)))) else (none)) else (if (x3.length : Int) < (x0.length : Int) then (some ((⟨#[]⟩ : ByteArray), 1)) else (if (x3.length : Int) > (x0.length : Int) then (some ((⟨#[]⟩ : ByteArray), 7)) else (redlineref21_Merge.l1 k x0 x1 x2 x3 (⟨#[]⟩ : ByteArray) 0 0)))
def redlineref21_Merge.l1 : Nat → List (S97) → List ByteArray → List ByteArray → List ByteArray → ByteArray → Int → Int → Option (ByteArray × Int)
  | 0, _, _, _, _, _, _, _ => none
  | k + 1, x0, x1, x2, x3, x14, x15, x16 => if x16 < (x0.length : Int) then (if 0 ≤ x16 then (if 0 ≤ x15 then (if x15 ≤ ((rd_T97 x0 x16).f0) then (if ((rd_T97 x0 x16).f0) ≤ (x1.length : Int) then ((redlineref21_Lines.f k ((x1.take (((rd_T97 x0 x16).f0) : Int).toNat).drop (x15 : Int).toNat)).bind fun t174 => ((redlineref21_add.f x14 t174).bind fun t175 => (if x16 < (x3.length : Int) then (if 0 ≤ ((rd_T97 x0 x16).f0) then (if ((rd_T97 x0 x16).f0) ≤ (wrap64 (((rd_T97 x0 x16).f0) + ((rd_T97 x0 x16).f1))) then (if (wrap64 (((rd_T97 x0 x16).f0) + ((rd_T97 x0 x16).f1))) ≤ (x1.length : Int) then ((redlineref21_Lines.f k ((x1.take ((wrap64 (((rd_T97 x0 x16).f0) + ((rd_T97 x0 x16).f1))) : Int).toNat).drop (((rd_T97 x0 x16).f0) : Int).toNat)).bind fun t178 => (if 0 ≤ ((rd_T97 x0 x16).f2) then (if ((rd_T97 x0 x16).f2) ≤ (wrap64 (((rd_T97 x0 x16).f2) + ((rd_T97 x0 x16).f3))) then (if (wrap64 (((rd_T97 x0 x16).f2) + ((rd_T97 x0 x16).f3))) ≤ (x2.length : Int) then ((redlineref21_Lines.f k ((x2.take ((wrap64 (((rd_T97 x0 x16).f2) + ((rd_T97 x0 x16).f3))) : Int).toNat).drop (((rd_T97 x0 x16).f2) : Int).toNat)).bind fun t180 => ((redlineref21_said.f (rdOf ByteArray.empty x3 x16) t178 t180).bind fun bt181 => ((redlineref21_add.f t175 bt181.1).bind fun t183 => (redlineref21_Merge.l1 k x0 x1 x2 x3 t183 (wrap64 (((rd_T97 x0 x16).f0) + ((rd_T97 x0 x16).f1))) (wrap64 (x16 + 1)))))) else (none)) else (none)) else (none))) else (none)) else (none)) else (none)) else (none)))) else (none)) else (none)) else (none)) else (none)) else (if 0 ≤ x15 then (if x15 ≤ (x1.length : Int) then ((redlineref21_Lines.f k (x1.drop (x15 : Int).toNat)).bind fun t169 => ((redlineref21_add.f x14 t169).bind fun t170 => (some (t170, 0)))) else (none)) else (none))
end
def redlineref21_Merge.f (k : Nat) (l0 : List (S97)) (l1 : List ByteArray) (l2 : List ByteArray) (l3 : List ByteArray) : Option (ByteArray × Int) := (redlineref05_Check.f k l0 (l1.length : Int) (l2.length : Int)).bind fun t164 => (if t164 = 0 then (redlineref21_Merge.l0 k l0 l1 l2 l3 0) else (some ((⟨#[]⟩ : ByteArray), t164)))
def redlineref21_Merge.T21 : Bool × List (List Nat × List Nat) := (true, [([], []), ([], []), ([0, 1], [0, 1]), ([2], [2]), ([], []), ([], []), ([5], [5]), ([], []), ([7], [7]), ([], []), ([9], [9]), ([8, 10], [8, 10]), ([4, 6, 11], [4, 6, 11]), ([12], [12]), ([], []), ([], []), ([15], [15]), ([], []), ([17], [17]), ([], []), ([19], [19]), ([18, 20], [18, 20]), ([14, 16, 21], [14, 16, 21]), ([22, 13], [22]), ([3, 13, 23, 23], [3, 13, 23]), ([24], [24]), ([25], [25]), ([25], [25]), ([26, 24, 0, 1, 2, 3, 4, 5, 6, 7, 8, 9, 10, 11, 12, 13, 14, 15, 16, 17, 18, 19, 20, 21, 22, 23, 24, 25, 26], [26]), ([27, 28, 0, 1, 2, 3, 4, 5, 6, 7, 8, 9, 10, 11, 12, 13, 14, 15, 16, 17, 18, 19, 20, 21, 22, 23, 24, 25, 26, 27, 28], [27])])
def redlineref21_Merge.B21 : List Nat := [0, 0, 3, 7, 0, 0, 32, 0, 128, 0, 512, 1920, 4080, 8176, 0, 0, 32768, 0, 131072, 0, 524288, 1966080, 4177920, 8388592, 16777215, 33554431, 67108863, 67108863, 134217727, 536870911]
theorem redlineref21_Merge.tab21 : rtab .any (opsOf Try.f28 21) = redlineref21_Merge.T21 := by kernel_rfl
theorem redlineref21_Merge.bits21 : waitsOk redlineref21_Merge.T21.2 redlineref21_Merge.B21 = true := by kernel_rfl
set_option maxHeartbeats 8000000 in
set_option maxRecDepth 100000 in
theorem redlineref21_Merge.calls (k : Nat) (A0 : Option Addr) (c0 : Nat) (l0 : List (S97)) (A1 : Option Addr) (c1 : Nat) (l1 : List ByteArray) (A2 : Option Addr) (c2 : Nat) (l2 : List ByteArray) (A3 : Option Addr) (c3 : Nat) (l3 : List ByteArray) (r1 : ByteArray) (r2 : Int) (w : World) (hr0 : Kd.C k97 w A0 l0.length l0) (hc0 : l0.length ≤ c0) (hr1 : Kd.C Kd.string w A1 l1.length l1) (hc1 : l1.length ≤ c1) (hr2 : Kd.C Kd.string w A2 l2.length l2) (hc2 : l2.length ≤ c2) (hr3 : Kd.C Kd.string w A3 l3.length l3) (hc3 : l3.length ≤ c3) (h : redlineref21_Merge.f k l0 l1 l2 l3 = some (r1, r2)) :
    Calls Try.prog 28 #[.slice A0 l0.length c0, .slice A1 l1.length c1, .slice A2 l2.length c2, .slice A3 l3.length c3] w fun e w' => e = .returned (.tuple #[.string r1, .int .i64 r2]) ∧ Below w.heap.size w w' := by
  have hu97 := Try.underlying97
  have HR0 := Aside0.mk hr0
  have HC0 := Aside0.mk hc0
  clear hr0 hc0
  have HR1 := Aside0.mk hr1
  have HC1 := Aside0.mk hc1
  clear hr1 hc1
  have HR2 := Aside0.mk hr2
  have HC2 := Aside0.mk hc2
  clear hr2 hc2
  have HR3 := Aside0.mk hr3
  have HC3 := Aside0.mk hc3
  clear hr3 hc3
  have HB := Aside0.mk (Below.refl w.heap.size w)
  have H : ((redlineref05_Check.f k l0 (l1.length : Int) (l2.length : Int)).bind fun t164 => (if t164 = 0 then (redlineref21_Merge.l0 k l0 l1 l2 l3 0) else (some ((⟨#[]⟩ : ByteArray), t164)))) = some (r1, r2) := h
  clear h
  replace H := Option.bind_eq_some_iff.mp H
  obtain ⟨t164, A50, H⟩ := H
  replace H : (if t164 = 0 then (redlineref21_Merge.l0 k l0 l1 l2 l3 0) else (some ((⟨#[]⟩ : ByteArray), t164))) = some (r1, r2) := H
  have A5 := Aside0.mk A50
  clear A50
  by_cases c6 : t164 = 0
  ·rw [if_pos c6] at H
   have c6b0 : (t164 == 0) = true := beq_iff_eq.mpr c6
   have c6b1 : (t164 != 0) = false := bne_eq_false_iff_eq.mpr c6
   clear c6
   have H' := Aside0.mk H
   clear H
   go_enter Try.func28, Try.ntmps28
   go_wp2_with (first | ((with_reducible refine gate_callee (f := 27) rfl ?_); refine goesL_ (some 25) rfl rfl Try.func27 (by kernel_rfl) rfl #[.slice A0 l0.length c0, .int .i64 (l1.length : Int), .int .i64 (l2.length : Int)] rfl (by (try simp only [List.map_toArray, List.map_cons, List.map_nil]); first | done | rfl | (simp only [List.length_drop, List.length_take]; rfl)) ?_; (with_reducible refine (redlineref05_Check.calls k _ _ l0 (l1.length : Int) (l2.length : Int) t164 _ ?side1 ?side2 A5.out).mono ?_); (case side1 => repeat (first | exact HR0.out | (with_reducible refine Kd.C_alloc ?_ _) | (with_reducible refine Kd.C_drewN ?_ _) | (with_reducible refine Kd.C_drew ?_))); (case side2 => exact HC0.out); rintro e w7 ⟨rfl, hb⟩; refine ⟨_, rfl, ?_⟩; have n0_ := Aside0.mk (below_step (by repeat (first | (with_reducible first | exact HB.out | apply below_alloc | apply pw_below_drewN | apply below_drew1) | exact HB.out)) hb); clear HB; have HB := n0_; clear n0_; (try clear hb); (try clear hb2); (try clear hk); (try clear hi)))
   go_loopg [11] k (fun kq v11 w' => ∃ (x11_1 : Int), v11 = .int .i64 x11_1 ∧ Aside0 (redlineref21_Merge.l0 kq l0 l1 l2 l3 x11_1 = some (r1, r2)) ∧ Aside0 (kq ≤ k) ∧ Aside0 (Below w.heap.size w w'))
   case atStart => exact ⟨(0), (by first | rfl | (simp; done) | (simp [*]; done)), H', ⟨Nat.le_refl _⟩, ⟨by repeat (first | (with_reducible first | exact HB.out | apply below_alloc | apply pw_below_drewN | apply below_drew1) | exact HB.out)⟩⟩
   case round =>
    clear H'
    try clear c1
    try clear c2
    try clear p2
    try clear c3
    try clear c6
    try clear c6b0
    try clear c6b1
    obtain ⟨x11_1, rfl, HA, HK1, HB⟩ := hrel
    cases gk with
    | zero => exact absurd HA.out (by simp [redlineref21_Merge.l0])
    | succ k1 =>
     have H := HA.out
     clear HA
     simp only [redlineref21_Merge.l0] at H
     by_cases c8 : x11_1 < (l3.length : Int)
     ·rw [if_pos c8] at H
      have c8b0 : decide (x11_1 < (l3.length : Int)) = true := decide_eq_true c8
      clear c8
      by_cases c9 : 0 ≤ x11_1
      ·rw [if_pos c9] at H
       have c9b0 : decide (0 ≤ x11_1) = true := decide_eq_true c9
       clear c9
       replace H := Option.bind_eq_some_iff.mp H
       obtain ⟨⟨t166, t167⟩, A100, H⟩ := H
       replace H : (if t167 = true then (redlineref21_Merge.l0 k1 l0 l1 l2 l3 (wrap64 (x11_1 + 1))) else (some ((⟨#[]⟩ : ByteArray), 210))) = some (r1, r2) := H
       have A10 := Aside0.mk A100
       clear A100
       by_cases c11 : t167 = true
       ·subst c11
        have H1 : (redlineref21_Merge.l0 k1 l0 l1 l2 l3 (wrap64 (x11_1 + 1))) = some (r1, r2) := by rw [if_pos rfl] at H; exact H
        clear H
        have H := H1
        clear H1
        have H' := Aside0.mk H
        clear H
        have p165 : 0 ≤ (x11_1 : Int) := of_decide_eq_true (by first | (with_reducible assumption) | assumption)
        have q165 : x11_1 < (l3.length : Int) := of_decide_eq_true (by first | (with_reducible assumption) | assumption)
        obtain ⟨ad165, e165, hx165_0⟩ := Kd.at_string HR3.out x11_1 p165 q165
        cases e165
        replace hx165_0 := (HB.out.cell (World.block_lt_of_cell? w _ hx165_0)).trans hx165_0
        replace p165 := eq_true p165
        replace q165 := eq_true q165
        go_wp2_with (first | ((with_reducible refine gate_callee (f := 54) rfl ?_); refine goesL_ (some 40) rfl rfl Try.func54 (by kernel_rfl) rfl #[.string (rdOf ByteArray.empty l3 x11_1), .string (⟨#[]⟩ : ByteArray), .string (⟨#[]⟩ : ByteArray)] rfl (by (try simp only [List.map_toArray, List.map_cons, List.map_nil]); first | done | rfl | (simp only [List.length_drop, List.length_take]; rfl)) ?_; (with_reducible refine (redlineref21_said.calls (rdOf ByteArray.empty l3 x11_1) (⟨#[]⟩ : ByteArray) (⟨#[]⟩ : ByteArray) t166 true _ A10.out).mono ?_); rintro e w' ⟨rfl, ⟨nd, rfl⟩⟩; refine ⟨_, rfl, ?_⟩))
        go_roundg k1
        case measure => have := HK1.out; omega
        case rel => exact ⟨(wrap64 (x11_1 + 1)), (by first | rfl | (simp; done) | (simp [*]; done)), H', ⟨by have := HK1.out; omega⟩, ⟨by repeat (first | (with_reducible first | exact HB.out | apply below_alloc | apply pw_below_drewN | apply below_drew1) | exact HB.out)⟩⟩
       ·replace c11 := Bool.eq_false_iff.mpr c11
        subst c11
        have H1 : (some ((⟨#[]⟩ : ByteArray), 210)) = some (r1, r2) := by rw [if_neg (show ¬ (false = true) by decide)] at H; exact H
        clear H
        have H := H1
        clear H1
        simp only [Option.some.injEq, Prod.mk.injEq] at H
        obtain ⟨rfl, rfl⟩ := H
        have p165 : 0 ≤ (x11_1 : Int) := of_decide_eq_true (by first | (with_reducible assumption) | assumption)
        have q165 : x11_1 < (l3.length : Int) := of_decide_eq_true (by first | (with_reducible assumption) | assumption)
        obtain ⟨ad165, e165, hx165_0⟩ := Kd.at_string HR3.out x11_1 p165 q165
        cases e165
        replace hx165_0 := (HB.out.cell (World.block_lt_of_cell? w _ hx165_0)).trans hx165_0
        replace p165 := eq_true p165
        replace q165 := eq_true q165
        go_wp2_with (first | ((with_reducible refine gate_callee (f := 54) rfl ?_); refine goesL_ (some 40) rfl rfl Try.func54 (by kernel_rfl) rfl #[.string (rdOf ByteArray.empty l3 x11_1), .string (⟨#[]⟩ : ByteArray), .string (⟨#[]⟩ : ByteArray)] rfl (by (try simp only [List.map_toArray, List.map_cons, List.map_nil]); first | done | rfl | (simp only [List.length_drop, List.length_take]; rfl)) ?_; (with_reducible refine (redlineref21_said.calls (rdOf ByteArray.empty l3 x11_1) (⟨#[]⟩ : ByteArray) (⟨#[]⟩ : ByteArray) t166 false _ A10.out).mono ?_); rintro e w' ⟨rfl, ⟨nd, rfl⟩⟩; refine ⟨_, rfl, ?_⟩))
        go_ret2
        exact ⟨by first | rfl | (simp [errW_none, errW_some] <;> rfl) | (simp [*, errW_none, errW_some] <;> rfl), by repeat (first | (with_reducible first | exact HB.out | apply below_alloc | apply pw_below_drewN | apply below_drew1) | exact HB.out)⟩
      ·rw [if_neg c9] at H
       exact absurd H (by simp)
     ·rw [if_neg c8] at H
      have c8b0 : decide (x11_1 < (l3.length : Int)) = false := decide_eq_false c8
      clear c8
      by_cases c12 : (l3.length : Int) < (l0.length : Int)
      ·rw [if_pos c12] at H
       have c12b0 : decide ((l3.length : Int) < (l0.length : Int)) = true := decide_eq_true c12
       have c12b1 : decide (l3.length < l0.length) = true := decide_eq_true (Int.ofNat_lt.mp c12)
       clear c12
       simp only [Option.some.injEq, Prod.mk.injEq] at H
       obtain ⟨rfl, rfl⟩ := H
       go_wp2
       go_ret2
       exact ⟨by first | rfl | (simp [errW_none, errW_some] <;> rfl) | (simp [*, errW_none, errW_some] <;> rfl), by repeat (first | (with_reducible first | exact HB.out | apply below_alloc | apply pw_below_drewN | apply below_drew1) | exact HB.out)⟩
      ·rw [if_neg c12] at H
       have c12b0 : decide ((l3.length : Int) < (l0.length : Int)) = false := decide_eq_false c12
       have c12b1 : decide (l3.length < l0.length) = false := decide_eq_false (fun h => c12 (Int.ofNat_lt.mpr h))
       clear c12
       by_cases c13 : (l3.length : Int) > (l0.length : Int)
       ·rw [if_pos c13] at H
        have c13b0 : decide ((l0.length : Int) < (l3.length : Int)) = true := decide_eq_true c13
        have c13b1 : decide (l0.length < l3.length) = true := decide_eq_true (Int.ofNat_lt.mp c13)
        clear c13
        simp only [Option.some.injEq, Prod.mk.injEq] at H
        obtain ⟨rfl, rfl⟩ := H
        go_wp2
        go_ret2
        exact ⟨by first | rfl | (simp [errW_none, errW_some] <;> rfl) | (simp [*, errW_none, errW_some] <;> rfl), by repeat (first | (with_reducible first | exact HB.out | apply below_alloc | apply pw_below_drewN | apply below_drew1) | exact HB.out)⟩
       ·rw [if_neg c13] at H
        have c13b0 : decide ((l0.length : Int) < (l3.length : Int)) = false := decide_eq_false c13
        have c13b1 : decide (l0.length < l3.length) = false := decide_eq_false (fun h => c13 (Int.ofNat_lt.mpr h))
        clear c13
        have H' := Aside0.mk H
        clear H
        go_wp2
        go_loopg [14, 15, 16] k1 (fun kq v14 v15 v16 w' => ∃ (x14_2 : ByteArray) (x15_2 : Int) (x16_2 : Int), v14 = .string x14_2 ∧ v15 = .int .i64 x15_2 ∧ v16 = .int .i64 x16_2 ∧ Aside0 (redlineref21_Merge.l1 kq l0 l1 l2 l3 x14_2 x15_2 x16_2 = some (r1, r2)) ∧ Aside0 (kq ≤ k1) ∧ Aside0 (Below w.heap.size w w'))
        case atStart => exact ⟨((⟨#[]⟩ : ByteArray)), (0), (0), (by first | rfl | (simp; done) | (simp [*]; done)), (by first | rfl | (simp; done) | (simp [*]; done)), (by first | rfl | (simp; done) | (simp [*]; done)), H', ⟨Nat.le_refl _⟩, ⟨by repeat (first | (with_reducible first | exact HB.out | apply below_alloc | apply pw_below_drewN | apply below_drew1) | exact HB.out)⟩⟩
        case round =>
         clear H'
         try clear c1
         try clear p1
         try clear q1
         try clear hx1
         try clear c2
         try clear p2
         try clear c3
         try clear c5
         try clear c6
         try clear c6b0
         try clear c6b1
         try clear p6
         try clear c8
         try clear c8b0
         try clear c9
         try clear c9b0
         try clear c11
         try clear c12
         try clear c12b0
         try clear c12b1
         try clear c13
         try clear c13b0
         try clear c13b1
         try clear hx165_0
         try clear p165
         try clear p2
         try clear q165
         obtain ⟨x14_2, x15_2, x16_2, rfl, rfl, rfl, HA, HK2, HB⟩ := hrel
         cases gk with
         | zero => exact absurd HA.out (by simp [redlineref21_Merge.l1])
         | succ k2 =>
          have H := HA.out
          clear HA
          simp only [redlineref21_Merge.l1] at H
          by_cases c14 : x16_2 < (l0.length : Int)
          ·rw [if_pos c14] at H
           have c14b0 : decide (x16_2 < (l0.length : Int)) = true := decide_eq_true c14
           clear c14
           by_cases c15 : 0 ≤ x16_2
           ·rw [if_pos c15] at H
            have c15b0 : decide (0 ≤ x16_2) = true := decide_eq_true c15
            clear c15
            by_cases c16 : 0 ≤ x15_2
            ·rw [if_pos c16] at H
             have c16b0 := eq_true c16
             have c16b1 : decide (0 ≤ x15_2) = true := decide_eq_true c16
             clear c16
             by_cases c17 : x15_2 ≤ ((rd_T97 l0 x16_2).f0)
             ·rw [if_pos c17] at H
              have c17b0 := eq_true c17
              have c17b1 : decide (x15_2 ≤ ((rd_T97 l0 x16_2).f0)) = true := decide_eq_true c17
              clear c17
              by_cases c18 : ((rd_T97 l0 x16_2).f0) ≤ (l1.length : Int)
              ·rw [if_pos c18] at H
               have c18b0 := eq_true c18
               have c18b1 : decide (((rd_T97 l0 x16_2).f0) ≤ (l1.length : Int)) = true := decide_eq_true c18
               clear c18
               replace H := Option.bind_eq_some_iff.mp H
               obtain ⟨t174, A190, H⟩ := H
               replace H : ((redlineref21_add.f x14_2 t174).bind fun t175 => (if x16_2 < (l3.length : Int) then (if 0 ≤ ((rd_T97 l0 x16_2).f0) then (if ((rd_T97 l0 x16_2).f0) ≤ (wrap64 (((rd_T97 l0 x16_2).f0) + ((rd_T97 l0 x16_2).f1))) then (if (wrap64 (((rd_T97 l0 x16_2).f0) + ((rd_T97 l0 x16_2).f1))) ≤ (l1.length : Int) then ((redlineref21_Lines.f k2 ((l1.take ((wrap64 (((rd_T97 l0 x16_2).f0) + ((rd_T97 l0 x16_2).f1))) : Int).toNat).drop (((rd_T97 l0 x16_2).f0) : Int).toNat)).bind fun t178 => (if 0 ≤ ((rd_T97 l0 x16_2).f2) then (if ((rd_T97 l0 x16_2).f2) ≤ (wrap64 (((rd_T97 l0 x16_2).f2) + ((rd_T97 l0 x16_2).f3))) then (if (wrap64 (((rd_T97 l0 x16_2).f2) + ((rd_T97 l0 x16_2).f3))) ≤ (l2.length : Int) then ((redlineref21_Lines.f k2 ((l2.take ((wrap64 (((rd_T97 l0 x16_2).f2) + ((rd_T97 l0 x16_2).f3))) : Int).toNat).drop (((rd_T97 l0 x16_2).f2) : Int).toNat)).bind fun t180 => ((redlineref21_said.f (rdOf ByteArray.empty l3 x16_2) t178 t180).bind fun bt181 => ((redlineref21_add.f t175 bt181.1).bind fun t183 => (redlineref21_Merge.l1 k2 l0 l1 l2 l3 t183 (wrap64 (((rd_T97 l0 x16_2).f0) + ((rd_T97 l0 x16_2).f1))) (wrap64 (x16_2 + 1)))))) else (none)) else (none)) else (none))) else (none)) else (none)) else (none)) else (none))) = some (r1, r2) := H
               have A19 := Aside0.mk A190
               clear A190
               replace H := Option.bind_eq_some_iff.mp H
               obtain ⟨t175, A200, H⟩ := H
               replace H : (if x16_2 < (l3.length : Int) then (if 0 ≤ ((rd_T97 l0 x16_2).f0) then (if ((rd_T97 l0 x16_2).f0) ≤ (wrap64 (((rd_T97 l0 x16_2).f0) + ((rd_T97 l0 x16_2).f1))) then (if (wrap64 (((rd_T97 l0 x16_2).f0) + ((rd_T97 l0 x16_2).f1))) ≤ (l1.length : Int) then ((redlineref21_Lines.f k2 ((l1.take ((wrap64 (((rd_T97 l0 x16_2).f0) + ((rd_T97 l0 x16_2).f1))) : Int).toNat).drop (((rd_T97 l0 x16_2).f0) : Int).toNat)).bind fun t178 => (if 0 ≤ ((rd_T97 l0 x16_2).f2) then (if ((rd_T97 l0 x16_2).f2) ≤ (wrap64 (((rd_T97 l0 x16_2).f2) + ((rd_T97 l0 x16_2).f3))) then (if (wrap64 (((rd_T97 l0 x16_2).f2) + ((rd_T97 l0 x16_2).f3))) ≤ (l2.length : Int) then ((redlineref21_Lines.f k2 ((l2.take ((wrap64 (((rd_T97 l0 x16_2).f2) + ((rd_T97 l0 x16_2).f3))) : Int).toNat).drop (((rd_T97 l0 x16_2).f2) : Int).toNat)).bind fun t180 => ((redlineref21_said.f (rdOf ByteArray.empty l3 x16_2) t178 t180).bind fun bt181 => ((redlineref21_add.f t175 bt181.1).bind fun t183 => (redlineref21_Merge.l1 k2 l0 l1 l2 l3 t183 (wrap64 (((rd_T97 l0 x16_2).f0) + ((rd_T97 l0 x16_2).f1))) (wrap64 (x16_2 + 1)))))) else (none)) else (none)) else (none))) else (none)) else (none)) else (none)) else (none)) = some (r1, r2) := H
               have A20 := Aside0.mk A200
               clear A200
               by_cases c21 : x16_2 < (l3.length : Int)
               ·rw [if_pos c21] at H
                have c21b0 : decide (x16_2 < (l3.length : Int)) = true := decide_eq_true c21
                clear c21
                by_cases c22 : 0 ≤ ((rd_T97 l0 x16_2).f0)
                ·rw [if_pos c22] at H
                 have c22b0 := eq_true c22
                 have c22b1 : decide (0 ≤ ((rd_T97 l0 x16_2).f0)) = true := decide_eq_true c22
                 clear c22
                 by_cases c23 : ((rd_T97 l0 x16_2).f0) ≤ (wrap64 (((rd_T97 l0 x16_2).f0) + ((rd_T97 l0 x16_2).f1)))
                 ·rw [if_pos c23] at H
                  have c23b0 := eq_true c23
                  have c23b1 : decide (((rd_T97 l0 x16_2).f0) ≤ (wrap64 (((rd_T97 l0 x16_2).f0) + ((rd_T97 l0 x16_2).f1)))) = true := decide_eq_true c23
                  by_cases c24 : (wrap64 (((rd_T97 l0 x16_2).f0) + ((rd_T97 l0 x16_2).f1))) ≤ (l1.length : Int)
                  ·rw [if_pos c24] at H
                   have c24b0 := eq_true c24
                   have c24b1 : decide ((wrap64 (((rd_T97 l0 x16_2).f0) + ((rd_T97 l0 x16_2).f1))) ≤ (l1.length : Int)) = true := decide_eq_true c24
                   replace H := Option.bind_eq_some_iff.mp H
                   obtain ⟨t178, A250, H⟩ := H
                   replace H : (if 0 ≤ ((rd_T97 l0 x16_2).f2) then (if ((rd_T97 l0 x16_2).f2) ≤ (wrap64 (((rd_T97 l0 x16_2).f2) + ((rd_T97 l0 x16_2).f3))) then (if (wrap64 (((rd_T97 l0 x16_2).f2) + ((rd_T97 l0 x16_2).f3))) ≤ (l2.length : Int) then ((redlineref21_Lines.f k2 ((l2.take ((wrap64 (((rd_T97 l0 x16_2).f2) + ((rd_T97 l0 x16_2).f3))) : Int).toNat).drop (((rd_T97 l0 x16_2).f2) : Int).toNat)).bind fun t180 => ((redlineref21_said.f (rdOf ByteArray.empty l3 x16_2) t178 t180).bind fun bt181 => ((redlineref21_add.f t175 bt181.1).bind fun t183 => (redlineref21_Merge.l1 k2 l0 l1 l2 l3 t183 (wrap64 (((rd_T97 l0 x16_2).f0) + ((rd_T97 l0 x16_2).f1))) (wrap64 (x16_2 + 1)))))) else (none)) else (none)) else (none)) = some (r1, r2) := H
                   have A25 := Aside0.mk A250
                   clear A250
                   by_cases c26 : 0 ≤ ((rd_T97 l0 x16_2).f2)
                   ·rw [if_pos c26] at H
                    have c26b0 := eq_true c26
                    have c26b1 : decide (0 ≤ ((rd_T97 l0 x16_2).f2)) = true := decide_eq_true c26
                    clear c26
                    by_cases c27 : ((rd_T97 l0 x16_2).f2) ≤ (wrap64 (((rd_T97 l0 x16_2).f2) + ((rd_T97 l0 x16_2).f3)))
                    ·rw [if_pos c27] at H
                     have c27b0 := eq_true c27
                     have c27b1 : decide (((rd_T97 l0 x16_2).f2) ≤ (wrap64 (((rd_T97 l0 x16_2).f2) + ((rd_T97 l0 x16_2).f3)))) = true := decide_eq_true c27
                     by_cases c28 : (wrap64 (((rd_T97 l0 x16_2).f2) + ((rd_T97 l0 x16_2).f3))) ≤ (l2.length : Int)
                     ·rw [if_pos c28] at H
                      have c28b0 := eq_true c28
                      have c28b1 : decide ((wrap64 (((rd_T97 l0 x16_2).f2) + ((rd_T97 l0 x16_2).f3))) ≤ (l2.length : Int)) = true := decide_eq_true c28
                      replace H := Option.bind_eq_some_iff.mp H
                      obtain ⟨t180, A290, H⟩ := H
                      replace H : ((redlineref21_said.f (rdOf ByteArray.empty l3 x16_2) t178 t180).bind fun bt181 => ((redlineref21_add.f t175 bt181.1).bind fun t183 => (redlineref21_Merge.l1 k2 l0 l1 l2 l3 t183 (wrap64 (((rd_T97 l0 x16_2).f0) + ((rd_T97 l0 x16_2).f1))) (wrap64 (x16_2 + 1))))) = some (r1, r2) := H
                      have A29 := Aside0.mk A290
                      clear A290
                      replace H := Option.bind_eq_some_iff.mp H
                      obtain ⟨⟨t181, t182⟩, A300, H⟩ := H
                      replace H : ((redlineref21_add.f t175 t181).bind fun t183 => (redlineref21_Merge.l1 k2 l0 l1 l2 l3 t183 (wrap64 (((rd_T97 l0 x16_2).f0) + ((rd_T97 l0 x16_2).f1))) (wrap64 (x16_2 + 1)))) = some (r1, r2) := H
                      have A30 := Aside0.mk A300
                      clear A300
                      replace H := Option.bind_eq_some_iff.mp H
                      obtain ⟨t183, A310, H⟩ := H
                      replace H : (redlineref21_Merge.l1 k2 l0 l1 l2 l3 t183 (wrap64 (((rd_T97 l0 x16_2).f0) + ((rd_T97 l0 x16_2).f1))) (wrap64 (x16_2 + 1))) = some (r1, r2) := H
                      have A31 := Aside0.mk A310
                      clear A310
                      have H' := Aside0.mk H
                      clear H
                      have p171 : 0 ≤ (x16_2 : Int) := of_decide_eq_true (by first | (with_reducible assumption) | assumption)
                      have q171 : x16_2 < (l0.length : Int) := of_decide_eq_true (by first | (with_reducible assumption) | assumption)
                      obtain ⟨ad171, e171, hx171_0, hx171_1, hx171_2, hx171_3⟩ := at_T97 HR0.out x16_2 p171 q171
                      cases e171
                      replace hx171_0 := (HB.out.cell (World.block_lt_of_cell? w _ hx171_0)).trans hx171_0
                      replace hx171_1 := (HB.out.cell (World.block_lt_of_cell? w _ hx171_1)).trans hx171_1
                      replace hx171_2 := (HB.out.cell (World.block_lt_of_cell? w _ hx171_2)).trans hx171_2
                      replace hx171_3 := (HB.out.cell (World.block_lt_of_cell? w _ hx171_3)).trans hx171_3
                      replace p171 := eq_true p171
                      replace q171 := eq_true q171
                      try go_wp2_with (first | ((with_reducible refine gate_dst (N := 17) rfl ?_); refine box_event ?hg (N := 17) ?hd (cs := #[.int .i64 0, .int .i64 0, .int .i64 0, .int .i64 0]) (t := 97) ?hr ?_; (case hd => rfl); (case hg => rfl); (case hr => first | (go_simp; done) | (go_simp; rfl)); intro gb172 hg w32 hbox hb; have n0_ := Aside0.mk (below_step (by repeat (first | (with_reducible first | exact HB.out | apply below_alloc | apply pw_below_drewN | apply below_drew1) | exact HB.out)) hb); have n1_ := Aside0.mk (hbox); have n2_ := Aside0.mk ((by rw [hg]; exact (below_size (by repeat (first | (with_reducible first | exact HB.out | apply below_alloc | apply pw_below_drewN | apply below_drew1) | exact HB.out))) : w.heap.size ≤ gb172)); have n3_ := Aside0.mk ((by rw [hg]; exact (below_size (by repeat (first | (with_reducible first | exact HB.out | apply below_alloc | apply pw_below_drewN | apply below_drew1) | exact HB.out))) : w.heap.size ≤ gb172)); clear HB; have HB := n0_; have BK172 := n1_; have GW172 := n2_; have GE172 := n3_; clear n0_ n1_ n2_ n3_; clear hb hbox hg; have hcz33_0 : w32.cell? ⟨gb172, 0, none⟩ = some (.int .i64 0) := (blk_cell BK172.out 0).trans rfl; have hcz33_1 : w32.cell? ⟨gb172, 1, none⟩ = some (.int .i64 0) := (blk_cell BK172.out 1).trans rfl; have hcz33_2 : w32.cell? ⟨gb172, 2, none⟩ = some (.int .i64 0) := (blk_cell BK172.out 2).trans rfl; have hcz33_3 : w32.cell? ⟨gb172, 3, none⟩ = some (.int .i64 0) := (blk_cell BK172.out 3).trans rfl; have hfz33_0 := blk_frozen BK172.out 0; have hfz33_1 := blk_frozen BK172.out 1; have hfz33_2 := blk_frozen BK172.out 2; have hfz33_3 := blk_frozen BK172.out 3; obtain ⟨i034, hi034, _, hsz34, _⟩ := info_parts info9; obtain ⟨A34, hcut34, hA34, hC34⟩ := print_mid_of (P := Try.prog) Value.string (⟨#[]⟩ : ByteArray) 23 9 .i64 .i64 Try.underlying23 hi034 hsz34 A1 c1 l1 x15_2 ((rd_T97 l0 x16_2).f0) (of_decide_eq_true (by first | (with_reducible assumption) | assumption)) (by first | omega | exact of_decide_eq_true (by first | (with_reducible assumption) | assumption)) (of_decide_eq_true (by first | (with_reducible assumption) | assumption)) HC1.out; have HR173 := Aside0.mk (Kd.C_of_reads (h1 := fun _ => rfl) (hA34 _ (Kd.reads_of_C HR1.out))); have HC173 := Aside0.mk hC34; clear hA34 hC34 hi034 hsz34) | ((with_reducible refine gate_callee (f := 56) rfl ?_); refine goesL_ (some 71) rfl rfl Try.func56 (by kernel_rfl) rfl #[.slice A34 ((l1.take (((rd_T97 l0 x16_2).f0) : Int).toNat).drop (x15_2 : Int).toNat).length (c1 - x15_2.toNat)] rfl (by (try simp only [List.map_toArray, List.map_cons, List.map_nil]); first | done | (rw [show ((l1.take (((rd_T97 l0 x16_2).f0) : Int).toNat).drop (x15_2 : Int).toNat).length = (((rd_T97 l0 x16_2).f0).toNat - x15_2.toNat) from (by rw [List.length_drop, List.length_take]; have h_ : (((rd_T97 l0 x16_2).f0) : Int) ≤ (l1.length : Int) := of_decide_eq_true (by first | (with_reducible assumption) | assumption); omega)] <;> rfl) | rfl | (simp only [List.length_drop, List.length_take]; rfl)) ?_; (with_reducible refine (redlineref21_Lines.calls k2 _ _ ((l1.take (((rd_T97 l0 x16_2).f0) : Int).toNat).drop (x15_2 : Int).toNat) t174 _ ?side1 ?side2 A19.out).mono ?_); (case side1 => exact Kd.C_below HR173.out (by repeat (first | (with_reducible first | exact HB.out | apply below_alloc | apply pw_below_drewN | apply below_drew1 | refine below_set ?_ GE172.out) | exact HB.out))); (case side2 => exact HC173.out); rintro e w' ⟨rfl, ⟨nd, rfl⟩⟩; refine ⟨_, rfl, ?_⟩) | ((with_reducible refine gate_callee (f := 55) rfl ?_); refine goesL_ (some 72) rfl rfl Try.func55 (by kernel_rfl) rfl #[.string x14_2, .string t174] rfl (by (try simp only [List.map_toArray, List.map_cons, List.map_nil]); first | done | rfl | (simp only [List.length_drop, List.length_take]; rfl)) ?_; (with_reducible refine (redlineref21_add.calls x14_2 t174 t175 _ A20.out).mono ?_); rintro e w' ⟨rfl, ⟨nd, rfl⟩⟩; refine ⟨_, rfl, ?_⟩))
                      have n0_ : Aside0 (((((w32.setCell ⟨gb172, 0, none⟩ (.int .i64 ((rd_T97 l0 x16_2).f0))).setCell ⟨gb172, 1, none⟩ (.int .i64 ((rd_T97 l0 x16_2).f1))).setCell ⟨gb172, 2, none⟩ (.int .i64 ((rd_T97 l0 x16_2).f2))).setCell ⟨gb172, 3, none⟩ (.int .i64 ((rd_T97 l0 x16_2).f3))).heap[gb172]? = some (.cells #[.int .i64 ((rd_T97 l0 x16_2).f0), .int .i64 ((rd_T97 l0 x16_2).f1), .int .i64 ((rd_T97 l0 x16_2).f2), .int .i64 ((rd_T97 l0 x16_2).f3)] 97 (0, 0))) := ⟨by (with_reducible repeat (first | refine blk_drewN ?_ _ | refine blk_drew ?_ | refine blk_alloc ?_ _)); refine blk_put (cs := #[.int .i64 ((rd_T97 l0 x16_2).f0), .int .i64 ((rd_T97 l0 x16_2).f1), .int .i64 ((rd_T97 l0 x16_2).f2), .int .i64 0]) ?_ 3 _ rfl; (with_reducible repeat (first | refine blk_drewN ?_ _ | refine blk_drew ?_ | refine blk_alloc ?_ _)); refine blk_put (cs := #[.int .i64 ((rd_T97 l0 x16_2).f0), .int .i64 ((rd_T97 l0 x16_2).f1), .int .i64 0, .int .i64 0]) ?_ 2 _ rfl; (with_reducible repeat (first | refine blk_drewN ?_ _ | refine blk_drew ?_ | refine blk_alloc ?_ _)); refine blk_put (cs := #[.int .i64 ((rd_T97 l0 x16_2).f0), .int .i64 0, .int .i64 0, .int .i64 0]) ?_ 1 _ rfl; (with_reducible repeat (first | refine blk_drewN ?_ _ | refine blk_drew ?_ | refine blk_alloc ?_ _)); refine blk_put (cs := #[.int .i64 0, .int .i64 0, .int .i64 0, .int .i64 0]) ?_ 0 _ rfl; (with_reducible repeat (first | refine blk_drewN ?_ _ | refine blk_drew ?_ | refine blk_alloc ?_ _)); exact BK172.out⟩
                      have n1_ : Aside0 (Below w.heap.size w ((((w32.setCell ⟨gb172, 0, none⟩ (.int .i64 ((rd_T97 l0 x16_2).f0))).setCell ⟨gb172, 1, none⟩ (.int .i64 ((rd_T97 l0 x16_2).f1))).setCell ⟨gb172, 2, none⟩ (.int .i64 ((rd_T97 l0 x16_2).f2))).setCell ⟨gb172, 3, none⟩ (.int .i64 ((rd_T97 l0 x16_2).f3)))) := ⟨by repeat (first | (with_reducible first | exact HB.out | apply below_alloc | apply pw_below_drewN | apply below_drew1 | refine below_set ?_ GE172.out) | exact HB.out)⟩
                      (try clear BK172)
                      (try clear HB)
                      generalize ((((w32.setCell ⟨gb172, 0, none⟩ (.int .i64 ((rd_T97 l0 x16_2).f0))).setCell ⟨gb172, 1, none⟩ (.int .i64 ((rd_T97 l0 x16_2).f1))).setCell ⟨gb172, 2, none⟩ (.int .i64 ((rd_T97 l0 x16_2).f2))).setCell ⟨gb172, 3, none⟩ (.int .i64 ((rd_T97 l0 x16_2).f3))) = w35 at n0_ n1_ ⊢
                      have BK172 := n0_
                      have HB := n1_
                      clear n0_ n1_
                      (try (rw [drewN_self w35]; generalize hq_ : World.drewN w35 _ = w35; have n0_ : Aside0 (w35.heap[gb172]? = some (.cells #[.int .i64 ((rd_T97 l0 x16_2).f0), .int .i64 ((rd_T97 l0 x16_2).f1), .int .i64 ((rd_T97 l0 x16_2).f2), .int .i64 ((rd_T97 l0 x16_2).f3)] 97 (0, 0))) := ⟨by rw [← hq_]; exact (by (with_reducible repeat (first | refine blk_drewN ?_ _ | refine blk_drew ?_ | refine blk_alloc ?_ _)); exact BK172.out)⟩; have n1_ : Aside0 (Below w.heap.size w w35) := ⟨by rw [← hq_]; exact (by repeat (first | (with_reducible first | exact HB.out | apply below_alloc | apply pw_below_drewN | apply below_drew1 | refine below_set ?_ GE172.out) | exact HB.out))⟩; clear BK172 HB hq_; have BK172 := n0_; have HB := n1_; clear n0_ n1_))
                      have n0_ := Aside0.mk (blk_drew BK172.out)
                      have n1_ := Aside0.mk (below_drew1 HB.out)
                      clear BK172
                      clear HB
                      have BK172 := n0_
                      have HB := n1_
                      clear n0_ n1_
                      have p176 : 0 ≤ (x16_2 : Int) := of_decide_eq_true (by first | (with_reducible assumption) | assumption)
                      have q176 : x16_2 < (l3.length : Int) := of_decide_eq_true (by first | (with_reducible assumption) | assumption)
                      obtain ⟨ad176, e176, hx176_0⟩ := Kd.at_string HR3.out x16_2 p176 q176
                      have hw176_0 := hx176_0
                      cases e176
                      replace hx176_0 := (HB.out.cell (World.block_lt_of_cell? w _ hx176_0)).trans hx176_0
                      replace p176 := eq_true p176
                      replace q176 := eq_true q176
                      obtain ⟨i037, hi037, _, hsz37, _⟩ := info_parts info9
                      obtain ⟨A37, hcut37, hA37, hC37⟩ := print_mid_of (P := Try.prog) Value.string (⟨#[]⟩ : ByteArray) 23 9 .i64 .i64 Try.underlying23 hi037 hsz37 A1 c1 l1 ((rd_T97 l0 x16_2).f0) (wrap64 (((rd_T97 l0 x16_2).f0) + ((rd_T97 l0 x16_2).f1))) (of_decide_eq_true (by first | (with_reducible assumption) | assumption)) (by first | omega | exact of_decide_eq_true (by first | (with_reducible assumption) | assumption)) (of_decide_eq_true (by first | (with_reducible assumption) | assumption)) HC1.out
                      have HR177 := Aside0.mk (Kd.C_of_reads (h1 := fun _ => rfl) (hA37 _ (Kd.reads_of_C HR1.out)))
                      have HC177 := Aside0.mk hC37
                      clear hA37 hC37 hi037 hsz37
                      obtain ⟨i038, hi038, _, hsz38, _⟩ := info_parts info9
                      obtain ⟨A38, hcut38, hA38, hC38⟩ := print_mid_of (P := Try.prog) Value.string (⟨#[]⟩ : ByteArray) 23 9 .i64 .i64 Try.underlying23 hi038 hsz38 A2 c2 l2 ((rd_T97 l0 x16_2).f2) (wrap64 (((rd_T97 l0 x16_2).f2) + ((rd_T97 l0 x16_2).f3))) (of_decide_eq_true (by first | (with_reducible assumption) | assumption)) (by first | omega | exact of_decide_eq_true (by first | (with_reducible assumption) | assumption)) (of_decide_eq_true (by first | (with_reducible assumption) | assumption)) HC2.out
                      have HR179 := Aside0.mk (Kd.C_of_reads (h1 := fun _ => rfl) (hA38 _ (Kd.reads_of_C HR2.out)))
                      have HC179 := Aside0.mk hC38
                      clear hA38 hC38 hi038 hsz38
                      refine start_ (n := 30) (S := fun w' => w'.cell? ⟨gb172, 0, none⟩ = some (.int .i64 ((rd_T97 l0 x16_2).f0)) ∧ w'.cell? ⟨gb172, 1, none⟩ = some (.int .i64 ((rd_T97 l0 x16_2).f1)) ∧ w'.cell? ⟨gb172, 2, none⟩ = some (.int .i64 ((rd_T97 l0 x16_2).f2)) ∧ w'.cell? ⟨gb172, 3, none⟩ = some (.int .i64 ((rd_T97 l0 x16_2).f3)) ∧ w'.cell? (ad176.add (x16_2).toNat) = some (.string (rdOf ByteArray.empty l3 x16_2))) (ds := []) #[false, false, false, false, false, false, false, false, false, false, false, false, false, false, false, false, false, false, false, false, false, false, false, false, false, false, false, false, false, false] (by kernel_rfl) rfl rfl ⟨(blk_cell BK172.out 0).trans rfl, (blk_cell BK172.out 1).trans rfl, (blk_cell BK172.out 2).trans rfl, (blk_cell BK172.out 3).trans rfl, ((HB.out.cell (World.block_lt_of_cell? w _ hw176_0)).trans hw176_0)⟩ (fun hHeld => ?_); refine with_tabW redlineref21_Merge.tab21 redlineref21_Merge.bits21 (fun HT_ HW_ => ?_)
                      generalize w35.drew = w36 at BK172 HB HR177 HR179 hx176_0 hHeld ⊢
                      refine pure_ (i := 0) (N := some 74) (v := ?_) (a' := ?_) #[true, false, false, false, false, false, false, false, false, false, false, false, false, false, false, false, false, false, false, false, false, false, false, false, false, false, false, false, false, false] rfl rfl (any_of HT_.out (by kernel_rfl)) (fun _ _ _ h => h) (Or.inl ⟨by rfl, ?_⟩) ?_ ?_
                      rotate_left
                      ·intro w'
                       go_simp
                       with_reducible rfl
                      rotate_left
                      ·simp only [Act.put, List.setIfInBounds_toArray, List.set_cons_zero, List.set_cons_succ, i64_w, i32_w]
                       rfl
                      refine pure_ (i := 1) (N := some 75) (v := ?_) (a' := ?_) #[true, true, false, false, false, false, false, false, false, false, false, false, false, false, false, false, false, false, false, false, false, false, false, false, false, false, false, false, false, false] rfl rfl (any_of HT_.out (by kernel_rfl)) (fun _ _ _ h => h) (Or.inl ⟨by rfl, ?_⟩) ?_ ?_
                      rotate_left
                      ·intro w'
                       go_simp
                       with_reducible rfl
                      rotate_left
                      ·simp only [Act.put, List.setIfInBounds_toArray, List.set_cons_zero, List.set_cons_succ, i64_w, i32_w]
                       rfl
                      refine pure_ (i := 2) (N := some 76) (v := ?_) (a' := ?_) #[true, true, true, false, false, false, false, false, false, false, false, false, false, false, false, false, false, false, false, false, false, false, false, false, false, false, false, false, false, false] rfl rfl (any_of HT_.out (by kernel_rfl)) (fun _ _ _ h => h) (Or.inl ⟨by rfl, ?_⟩) ?_ ?_
                      rotate_left
                      ·intro w'
                       go_simp
                       with_reducible rfl
                      rotate_left
                      ·simp only [Act.put, List.setIfInBounds_toArray, List.set_cons_zero, List.set_cons_succ, i64_w, i32_w]
                       rfl
                      refine pure_ (i := 4) (N := some 78) (v := ?_) (a' := ?_) #[true, true, true, false, true, false, false, false, false, false, false, false, false, false, false, false, false, false, false, false, false, false, false, false, false, false, false, false, false, false] rfl rfl (any_of HT_.out (by kernel_rfl)) (fun _ _ _ h => h) (Or.inl ⟨by rfl, ?_⟩) ?_ ?_
                      rotate_left
                      ·intro w'
                       go_simp
                       with_reducible rfl
                      rotate_left
                      ·simp only [Act.put, List.setIfInBounds_toArray, List.set_cons_zero, List.set_cons_succ, i64_w, i32_w]
                       rfl
                      refine pure_ (i := 5) (N := some 79) (v := ?_) (a' := ?_) #[true, true, true, false, true, true, false, false, false, false, false, false, false, false, false, false, false, false, false, false, false, false, false, false, false, false, false, false, false, false] rfl rfl (any_of HT_.out (by kernel_rfl)) (fun _ _ _ h => h) (Or.inl ⟨by rfl, ?_⟩) ?_ ?_
                      rotate_left
                      ·intro w'
                       go_simp
                       with_reducible rfl
                      rotate_left
                      ·simp only [Act.put, List.setIfInBounds_toArray, List.set_cons_zero, List.set_cons_succ, i64_w, i32_w]
                       rfl
                      refine pure_ (i := 7) (N := some 81) (v := ?_) (a' := ?_) #[true, true, true, false, true, true, false, true, false, false, false, false, false, false, false, false, false, false, false, false, false, false, false, false, false, false, false, false, false, false] rfl rfl (any_of HT_.out (by kernel_rfl)) (fun _ _ _ h => h) (Or.inl ⟨by rfl, ?_⟩) ?_ ?_
                      rotate_left
                      ·intro w'
                       go_simp
                       with_reducible rfl
                      rotate_left
                      ·simp only [Act.put, List.setIfInBounds_toArray, List.set_cons_zero, List.set_cons_succ, i64_w, i32_w]
                       rfl
                      refine pure_ (i := 9) (N := some 83) (v := ?_) (a' := ?_) #[true, true, true, false, true, true, false, true, false, true, false, false, false, false, false, false, false, false, false, false, false, false, false, false, false, false, false, false, false, false] rfl rfl (any_of HT_.out (by kernel_rfl)) (fun _ _ _ h => h) (Or.inl ⟨by rfl, ?_⟩) ?_ ?_
                      rotate_left
                      ·intro w'
                       go_simp
                       with_reducible rfl
                      rotate_left
                      ·simp only [Act.put, List.setIfInBounds_toArray, List.set_cons_zero, List.set_cons_succ, i64_w, i32_w]
                       rfl
                      refine pure_ (i := 14) (N := some 88) (v := ?_) (a' := ?_) #[true, true, true, false, true, true, false, true, false, true, false, false, false, false, true, false, false, false, false, false, false, false, false, false, false, false, false, false, false, false] rfl rfl (any_of HT_.out (by kernel_rfl)) (fun _ _ _ h => h) (Or.inl ⟨by rfl, ?_⟩) ?_ ?_
                      rotate_left
                      ·intro w'
                       go_simp
                       with_reducible rfl
                      rotate_left
                      ·simp only [Act.put, List.setIfInBounds_toArray, List.set_cons_zero, List.set_cons_succ, i64_w, i32_w]
                       rfl
                      refine pure_ (i := 15) (N := some 89) (v := ?_) (a' := ?_) #[true, true, true, false, true, true, false, true, false, true, false, false, false, false, true, true, false, false, false, false, false, false, false, false, false, false, false, false, false, false] rfl rfl (any_of HT_.out (by kernel_rfl)) (fun _ _ _ h => h) (Or.inl ⟨by rfl, ?_⟩) ?_ ?_
                      rotate_left
                      ·intro w'
                       go_simp
                       with_reducible rfl
                      rotate_left
                      ·simp only [Act.put, List.setIfInBounds_toArray, List.set_cons_zero, List.set_cons_succ, i64_w, i32_w]
                       rfl
                      refine pure_ (i := 17) (N := some 91) (v := ?_) (a' := ?_) #[true, true, true, false, true, true, false, true, false, true, false, false, false, false, true, true, false, true, false, false, false, false, false, false, false, false, false, false, false, false] rfl rfl (any_of HT_.out (by kernel_rfl)) (fun _ _ _ h => h) (Or.inl ⟨by rfl, ?_⟩) ?_ ?_
                      rotate_left
                      ·intro w'
                       go_simp
                       with_reducible rfl
                      rotate_left
                      ·simp only [Act.put, List.setIfInBounds_toArray, List.set_cons_zero, List.set_cons_succ, i64_w, i32_w]
                       rfl
                      refine pure_ (i := 19) (N := some 93) (v := ?_) (a' := ?_) #[true, true, true, false, true, true, false, true, false, true, false, false, false, false, true, true, false, true, false, true, false, false, false, false, false, false, false, false, false, false] rfl rfl (any_of HT_.out (by kernel_rfl)) (fun _ _ _ h => h) (Or.inl ⟨by rfl, ?_⟩) ?_ ?_
                      rotate_left
                      ·intro w'
                       go_simp
                       with_reducible rfl
                      rotate_left
                      ·simp only [Act.put, List.setIfInBounds_toArray, List.set_cons_zero, List.set_cons_succ, i64_w, i32_w]
                       rfl
                      refine take_ (i := 3) (N := some 77) (v := ?_) (a' := ?_) #[true, true, true, true, true, true, false, true, false, true, false, false, false, false, true, true, false, true, false, true, false, false, false, false, false, false, false, false, false, false] rfl rfl (take_ofW HT_.out HW_.out (by kernel_rfl)) (fun _ _ _ h => h) (Or.inl ⟨by rfl, ?_⟩) hHeld ?_ ?_
                      rotate_left
                      ·rintro w' ⟨s0, s1, s2, s3, s4⟩
                       go_simp
                       with_reducible rfl
                      rotate_left
                      ·simp only [Act.put, List.setIfInBounds_toArray, List.set_cons_zero, List.set_cons_succ, i64_w, i32_w]
                       rfl
                      refine take_ (i := 6) (N := some 80) (v := ?_) (a' := ?_) #[true, true, true, true, true, true, true, true, false, true, false, false, false, false, true, true, false, true, false, true, false, false, false, false, false, false, false, false, false, false] rfl rfl (take_ofW HT_.out HW_.out (by kernel_rfl)) (fun _ _ _ h => h) (Or.inl ⟨by rfl, ?_⟩) hHeld ?_ ?_
                      rotate_left
                      ·rintro w' ⟨s0, s1, s2, s3, s4⟩
                       go_simp
                       with_reducible rfl
                      rotate_left
                      ·simp only [Act.put, List.setIfInBounds_toArray, List.set_cons_zero, List.set_cons_succ, i64_w, i32_w]
                       rfl
                      refine take_ (i := 8) (N := some 82) (v := ?_) (a' := ?_) #[true, true, true, true, true, true, true, true, true, true, false, false, false, false, true, true, false, true, false, true, false, false, false, false, false, false, false, false, false, false] rfl rfl (take_ofW HT_.out HW_.out (by kernel_rfl)) (fun _ _ _ h => h) (Or.inl ⟨by rfl, ?_⟩) hHeld ?_ ?_
                      rotate_left
                      ·rintro w' ⟨s0, s1, s2, s3, s4⟩
                       go_simp
                       with_reducible rfl
                      rotate_left
                      ·simp only [Act.put, List.setIfInBounds_toArray, List.set_cons_zero, List.set_cons_succ, i64_w, i32_w]
                       rfl
                      refine take_ (i := 10) (N := some 84) (v := ?_) (a' := ?_) #[true, true, true, true, true, true, true, true, true, true, true, false, false, false, true, true, false, true, false, true, false, false, false, false, false, false, false, false, false, false] rfl rfl (take_ofW HT_.out HW_.out (by kernel_rfl)) (fun _ _ _ h => h) (Or.inl ⟨by rfl, ?_⟩) hHeld ?_ ?_
                      rotate_left
                      ·rintro w' ⟨s0, s1, s2, s3, s4⟩
                       go_simp
                       with_reducible rfl
                      rotate_left
                      ·simp only [Act.put, List.setIfInBounds_toArray, List.set_cons_zero, List.set_cons_succ, i64_w, i32_w]
                       rfl
                      refine pure_ (i := 11) (N := some 85) (v := ?_) (a' := ?_) #[true, true, true, true, true, true, true, true, true, true, true, true, false, false, true, true, false, true, false, true, false, false, false, false, false, false, false, false, false, false] rfl rfl (any_of HT_.out (by kernel_rfl)) (fun _ _ _ h => h) (Or.inl ⟨by rfl, ?_⟩) ?_ ?_
                      rotate_left
                      ·intro w'
                       go_simp
                       with_reducible rfl
                      rotate_left
                      ·simp only [Act.put, List.setIfInBounds_toArray, List.set_cons_zero, List.set_cons_succ, i64_w, i32_w]
                       rfl
                      refine pure_ (i := 12) (N := some 86) (v := ?_) (a' := ?_) #[true, true, true, true, true, true, true, true, true, true, true, true, true, false, true, true, false, true, false, true, false, false, false, false, false, false, false, false, false, false] rfl rfl (any_of HT_.out (by kernel_rfl)) (fun _ _ _ h => h) (Or.inl ⟨by rfl, ?_⟩) ?_ ?_
                      rotate_left
                      ·intro w'
                       go_simp
                       with_reducible rfl
                      rotate_left
                      ·simp only [Act.put, List.setIfInBounds_toArray, List.set_cons_zero, List.set_cons_succ, i64_w, i32_w]
                       rfl
                      refine take_ (i := 16) (N := some 90) (v := ?_) (a' := ?_) #[true, true, true, true, true, true, true, true, true, true, true, true, true, false, true, true, true, true, false, true, false, false, false, false, false, false, false, false, false, false] rfl rfl (take_ofW HT_.out HW_.out (by kernel_rfl)) (fun _ _ _ h => h) (Or.inl ⟨by rfl, ?_⟩) hHeld ?_ ?_
                      rotate_left
                      ·rintro w' ⟨s0, s1, s2, s3, s4⟩
                       go_simp
                       with_reducible rfl
                      rotate_left
                      ·simp only [Act.put, List.setIfInBounds_toArray, List.set_cons_zero, List.set_cons_succ, i64_w, i32_w]
                       rfl
                      refine take_ (i := 18) (N := some 92) (v := ?_) (a' := ?_) #[true, true, true, true, true, true, true, true, true, true, true, true, true, false, true, true, true, true, true, true, false, false, false, false, false, false, false, false, false, false] rfl rfl (take_ofW HT_.out HW_.out (by kernel_rfl)) (fun _ _ _ h => h) (Or.inl ⟨by rfl, ?_⟩) hHeld ?_ ?_
                      rotate_left
                      ·rintro w' ⟨s0, s1, s2, s3, s4⟩
                       go_simp
                       with_reducible rfl
                      rotate_left
                      ·simp only [Act.put, List.setIfInBounds_toArray, List.set_cons_zero, List.set_cons_succ, i64_w, i32_w]
                       rfl
                      refine take_ (i := 20) (N := some 94) (v := ?_) (a' := ?_) #[true, true, true, true, true, true, true, true, true, true, true, true, true, false, true, true, true, true, true, true, true, false, false, false, false, false, false, false, false, false] rfl rfl (take_ofW HT_.out HW_.out (by kernel_rfl)) (fun _ _ _ h => h) (Or.inl ⟨by rfl, ?_⟩) hHeld ?_ ?_
                      rotate_left
                      ·rintro w' ⟨s0, s1, s2, s3, s4⟩
                       go_simp
                       with_reducible rfl
                      rotate_left
                      ·simp only [Act.put, List.setIfInBounds_toArray, List.set_cons_zero, List.set_cons_succ, i64_w, i32_w]
                       rfl
                      refine pure_ (i := 21) (N := some 95) (v := ?_) (a' := ?_) #[true, true, true, true, true, true, true, true, true, true, true, true, true, false, true, true, true, true, true, true, true, true, false, false, false, false, false, false, false, false] rfl rfl (any_of HT_.out (by kernel_rfl)) (fun _ _ _ h => h) (Or.inl ⟨by rfl, ?_⟩) ?_ ?_
                      rotate_left
                      ·intro w'
                       go_simp
                       with_reducible rfl
                      rotate_left
                      ·simp only [Act.put, List.setIfInBounds_toArray, List.set_cons_zero, List.set_cons_succ, i64_w, i32_w]
                       rfl
                      refine pure_ (i := 22) (N := some 96) (v := ?_) (a' := ?_) #[true, true, true, true, true, true, true, true, true, true, true, true, true, false, true, true, true, true, true, true, true, true, true, false, false, false, false, false, false, false] rfl rfl (any_of HT_.out (by kernel_rfl)) (fun _ _ _ h => h) (Or.inl ⟨by rfl, ?_⟩) ?_ ?_
                      rotate_left
                      ·intro w'
                       go_simp
                       with_reducible rfl
                      rotate_left
                      ·simp only [Act.put, List.setIfInBounds_toArray, List.set_cons_zero, List.set_cons_succ, i64_w, i32_w]
                       rfl
                      refine one_ (i := 13) (N := some 87) #[true, true, true, true, true, true, true, true, true, true, true, true, true, true, true, true, true, true, true, true, true, true, true, false, false, false, false, false, false, false] rfl rfl (one_of HT_.out (by kernel_rfl)) (by decide) (fun K hK => ?_)
                      refine goes_ Try.func56 (by kernel_rfl) rfl #[.slice A37 ((l1.take ((wrap64 (((rd_T97 l0 x16_2).f0) + ((rd_T97 l0 x16_2).f1))) : Int).toNat).drop (((rd_T97 l0 x16_2).f0) : Int).toNat).length (c1 - ((rd_T97 l0 x16_2).f0).toNat)] (by rfl) rfl rfl (by (try simp only [List.map_toArray, List.map_cons, List.map_nil]); first | done | (rw [show ((l1.take ((wrap64 (((rd_T97 l0 x16_2).f0) + ((rd_T97 l0 x16_2).f1))) : Int).toNat).drop (((rd_T97 l0 x16_2).f0) : Int).toNat).length = ((wrap64 (((rd_T97 l0 x16_2).f0) + ((rd_T97 l0 x16_2).f1))).toNat - ((rd_T97 l0 x16_2).f0).toNat) from (by rw [List.length_drop, List.length_take]; have h_ : ((wrap64 (((rd_T97 l0 x16_2).f0) + ((rd_T97 l0 x16_2).f1))) : Int) ≤ (l1.length : Int) := of_decide_eq_true (by first | (with_reducible assumption) | assumption); omega)] <;> rfl) | rfl | (simp only [List.length_drop, List.length_take]; rfl)) ?_
                      with_reducible refine (redlineref21_Lines.calls k2 _ _ ((l1.take ((wrap64 (((rd_T97 l0 x16_2).f0) + ((rd_T97 l0 x16_2).f1))) : Int).toNat).drop (((rd_T97 l0 x16_2).f0) : Int).toNat) t178 _ ?side1 ?side2 A25.out).mono ?_
                      (case side1 => repeat (first | exact (Kd.C_below HR177.out HB.out) | (with_reducible refine Kd.C_alloc ?_ _) | (with_reducible refine Kd.C_drewN ?_ _) | (with_reducible refine Kd.C_drew ?_)))
                      (case side2 => exact HC177.out)
                      rintro e w' ⟨rfl, ⟨nd, rfl⟩⟩
                      refine ⟨_, rfl, ?_⟩
                      refine hK.out _ _ ⟨(blk_cell BK172.out 0).trans rfl, (blk_cell BK172.out 1).trans rfl, (blk_cell BK172.out 2).trans rfl, (blk_cell BK172.out 3).trans rfl, ((HB.out.cell (World.block_lt_of_cell? w _ hw176_0)).trans hw176_0)⟩ (fun hHeld => ?_)
                      clear hK K
                      refine norm_ (a' := ?_) ?_ ?_
                      rotate_left
                      ·show Act.put _ (some 87) _ = _
                       simp only [Act.put, List.setIfInBounds_toArray, List.set_cons_zero, List.set_cons_succ, i64_w, i32_w]
                       rfl
                      refine one_ (i := 23) (N := some 97) #[true, true, true, true, true, true, true, true, true, true, true, true, true, true, true, true, true, true, true, true, true, true, true, true, false, false, false, false, false, false] rfl rfl (one_of HT_.out (by kernel_rfl)) (by decide) (fun K hK => ?_)
                      refine goes_ Try.func56 (by kernel_rfl) rfl #[.slice A38 ((l2.take ((wrap64 (((rd_T97 l0 x16_2).f2) + ((rd_T97 l0 x16_2).f3))) : Int).toNat).drop (((rd_T97 l0 x16_2).f2) : Int).toNat).length (c2 - ((rd_T97 l0 x16_2).f2).toNat)] (by rfl) rfl rfl (by (try simp only [List.map_toArray, List.map_cons, List.map_nil]); first | done | (rw [show ((l2.take ((wrap64 (((rd_T97 l0 x16_2).f2) + ((rd_T97 l0 x16_2).f3))) : Int).toNat).drop (((rd_T97 l0 x16_2).f2) : Int).toNat).length = ((wrap64 (((rd_T97 l0 x16_2).f2) + ((rd_T97 l0 x16_2).f3))).toNat - ((rd_T97 l0 x16_2).f2).toNat) from (by rw [List.length_drop, List.length_take]; have h_ : ((wrap64 (((rd_T97 l0 x16_2).f2) + ((rd_T97 l0 x16_2).f3))) : Int) ≤ (l2.length : Int) := of_decide_eq_true (by first | (with_reducible assumption) | assumption); omega)] <;> rfl) | rfl | (simp only [List.length_drop, List.length_take]; rfl)) ?_
                      with_reducible refine (redlineref21_Lines.calls k2 _ _ ((l2.take ((wrap64 (((rd_T97 l0 x16_2).f2) + ((rd_T97 l0 x16_2).f3))) : Int).toNat).drop (((rd_T97 l0 x16_2).f2) : Int).toNat) t180 _ ?side1 ?side2 A29.out).mono ?_
                      (case side1 => repeat (first | exact (Kd.C_below HR179.out (by repeat (first | (with_reducible first | exact HB.out | apply below_alloc | apply pw_below_drewN | apply below_drew1 | refine below_set ?_ GE172.out) | exact HB.out))) | (with_reducible refine Kd.C_alloc ?_ _) | (with_reducible refine Kd.C_drewN ?_ _) | (with_reducible refine Kd.C_drew ?_)))
                      (case side2 => exact HC179.out)
                      rintro e w' ⟨rfl, ⟨nd, rfl⟩⟩
                      refine ⟨_, rfl, ?_⟩
                      refine hK.out _ _ ⟨(blk_cell BK172.out 0).trans rfl, (blk_cell BK172.out 1).trans rfl, (blk_cell BK172.out 2).trans rfl, (blk_cell BK172.out 3).trans rfl, ((HB.out.cell (World.block_lt_of_cell? w _ hw176_0)).trans hw176_0)⟩ (fun hHeld => ?_)
                      clear hK K
                      refine norm_ (a' := ?_) ?_ ?_
                      rotate_left
                      ·show Act.put _ (some 97) _ = _
                       simp only [Act.put, List.setIfInBounds_toArray, List.set_cons_zero, List.set_cons_succ, i64_w, i32_w]
                       rfl
                      refine one_ (i := 24) (N := some 98) #[true, true, true, true, true, true, true, true, true, true, true, true, true, true, true, true, true, true, true, true, true, true, true, true, true, false, false, false, false, false] rfl rfl (one_of HT_.out (by kernel_rfl)) (by decide) (fun K hK => ?_)
                      refine goes_ Try.func54 (by kernel_rfl) rfl #[.string (rdOf ByteArray.empty l3 x16_2), .string t178, .string t180] (by rfl) rfl rfl (by (try simp only [List.map_toArray, List.map_cons, List.map_nil]); first | done | rfl | (simp only [List.length_drop, List.length_take]; rfl)) ?_
                      with_reducible refine (redlineref21_said.calls (rdOf ByteArray.empty l3 x16_2) t178 t180 t181 t182 _ A30.out).mono ?_
                      rintro e w' ⟨rfl, ⟨nd, rfl⟩⟩
                      refine ⟨_, rfl, ?_⟩
                      refine hK.out _ _ ⟨(blk_cell BK172.out 0).trans rfl, (blk_cell BK172.out 1).trans rfl, (blk_cell BK172.out 2).trans rfl, (blk_cell BK172.out 3).trans rfl, ((HB.out.cell (World.block_lt_of_cell? w _ hw176_0)).trans hw176_0)⟩ (fun hHeld => ?_)
                      clear hK K
                      refine norm_ (a' := ?_) ?_ ?_
                      rotate_left
                      ·show Act.put _ (some 98) _ = _
                       simp only [Act.put, List.setIfInBounds_toArray, List.set_cons_zero, List.set_cons_succ, i64_w, i32_w]
                       rfl
                      refine pure_ (i := 25) (N := some 73) (v := ?_) (a' := ?_) #[true, true, true, true, true, true, true, true, true, true, true, true, true, true, true, true, true, true, true, true, true, true, true, true, true, true, false, false, false, false] rfl rfl (any_of HT_.out (by kernel_rfl)) (fun _ _ _ h => h) (Or.inl ⟨by rfl, ?_⟩) ?_ ?_
                      rotate_left
                      ·intro w'
                       go_simp
                       with_reducible rfl
                      rotate_left
                      ·simp only [Act.put, List.setIfInBounds_toArray, List.set_cons_zero, List.set_cons_succ, i64_w, i32_w]
                       rfl
                      refine pure_ (i := 26) (N := some 99) (v := ?_) (a' := ?_) #[true, true, true, true, true, true, true, true, true, true, true, true, true, true, true, true, true, true, true, true, true, true, true, true, true, true, true, false, false, false] rfl rfl (any_of HT_.out (by kernel_rfl)) (fun _ _ _ h => h) (Or.inl ⟨by rfl, ?_⟩) ?_ ?_
                      rotate_left
                      ·intro w'
                       go_simp
                       with_reducible rfl
                      rotate_left
                      ·simp only [Act.put, List.setIfInBounds_toArray, List.set_cons_zero, List.set_cons_succ, i64_w, i32_w]
                       rfl
                      refine pure_ (i := 27) (N := some 100) (v := ?_) (a' := ?_) #[true, true, true, true, true, true, true, true, true, true, true, true, true, true, true, true, true, true, true, true, true, true, true, true, true, true, true, true, false, false] rfl rfl (any_of HT_.out (by kernel_rfl)) (fun _ _ _ h => h) (Or.inl ⟨by rfl, ?_⟩) ?_ ?_
                      rotate_left
                      ·intro w'
                       go_simp
                       with_reducible rfl
                      rotate_left
                      ·simp only [Act.put, List.setIfInBounds_toArray, List.set_cons_zero, List.set_cons_succ, i64_w, i32_w]
                       rfl
                      refine pure_ (i := 28) (N := some 18) (v := ?_) (a' := ?_) #[true, true, true, true, true, true, true, true, true, true, true, true, true, true, true, true, true, true, true, true, true, true, true, true, true, true, true, true, true, false] rfl rfl (any_of HT_.out (by kernel_rfl)) (fun _ _ _ h => h) (Or.inl ⟨by rfl, ?_⟩) ?_ ?_
                      rotate_left
                      ·intro w'
                       go_simp
                       with_reducible rfl
                      rotate_left
                      ·simp only [Act.put, List.setIfInBounds_toArray, List.set_cons_zero, List.set_cons_succ, i64_w, i32_w]
                       rfl
                      refine pure_ (i := 29) (N := some 19) (v := ?_) (a' := ?_) #[true, true, true, true, true, true, true, true, true, true, true, true, true, true, true, true, true, true, true, true, true, true, true, true, true, true, true, true, true, true] rfl rfl (any_of HT_.out (by kernel_rfl)) (fun _ _ _ h => h) (Or.inl ⟨by rfl, ?_⟩) ?_ ?_
                      rotate_left
                      ·intro w'
                       go_simp
                       with_reducible rfl
                      rotate_left
                      ·simp only [Act.put, List.setIfInBounds_toArray, List.set_cons_zero, List.set_cons_succ, i64_w, i32_w]
                       rfl
                      refine done_ (done_of HT_.out (by kernel_rfl)) ?_
                      try go_wp2_with (first | ((with_reducible refine gate_callee (f := 55) rfl ?_); refine goesL_ (some 103) rfl rfl Try.func55 (by kernel_rfl) rfl #[.string t175, .string t181] rfl (by (try simp only [List.map_toArray, List.map_cons, List.map_nil]); first | done | rfl | (simp only [List.length_drop, List.length_take]; rfl)) ?_; (with_reducible refine (redlineref21_add.calls t175 t181 t183 _ A31.out).mono ?_); rintro e w' ⟨rfl, ⟨nd, rfl⟩⟩; refine ⟨_, rfl, ?_⟩; have hcz39_0 : w36.cell? ⟨gb172, 0, none⟩ = some (.int .i64 ((rd_T97 l0 x16_2).f0)) := (blk_cell BK172.out 0).trans rfl; have hcz39_1 : w36.cell? ⟨gb172, 1, none⟩ = some (.int .i64 ((rd_T97 l0 x16_2).f1)) := (blk_cell BK172.out 1).trans rfl; have hcz39_2 : w36.cell? ⟨gb172, 2, none⟩ = some (.int .i64 ((rd_T97 l0 x16_2).f2)) := (blk_cell BK172.out 2).trans rfl; have hcz39_3 : w36.cell? ⟨gb172, 3, none⟩ = some (.int .i64 ((rd_T97 l0 x16_2).f3)) := (blk_cell BK172.out 3).trans rfl; have hfz39_0 := blk_frozen BK172.out 0; have hfz39_1 := blk_frozen BK172.out 1; have hfz39_2 := blk_frozen BK172.out 2; have hfz39_3 := blk_frozen BK172.out 3))
                      go_roundg k2
                      case measure => have := HK1.out; have := HK2.out; omega
                      case rel => exact ⟨(t183), (wrap64 (((rd_T97 l0 x16_2).f0) + ((rd_T97 l0 x16_2).f1))), (wrap64 (x16_2 + 1)), (by first | rfl | (simp; done) | (simp [*]; done)), (by first | rfl | (simp; done) | (simp [*]; done)), (by first | rfl | (simp; done) | (simp [*]; done)), H', ⟨by have := HK1.out; have := HK2.out; omega⟩, ⟨by repeat (first | (with_reducible first | exact HB.out | apply below_alloc | apply pw_below_drewN | apply below_drew1 | refine below_set ?_ GE172.out) | exact HB.out)⟩⟩
                     ·rw [if_neg c28] at H
                      exact absurd H (by simp)
                    ·rw [if_neg c27] at H
                     exact absurd H (by simp)
                   ·rw [if_neg c26] at H
                    exact absurd H (by simp)
                  ·rw [if_neg c24] at H
                   exact absurd H (by simp)
                 ·rw [if_neg c23] at H
                  exact absurd H (by simp)
                ·rw [if_neg c22] at H
                 exact absurd H (by simp)
               ·rw [if_neg c21] at H
                exact absurd H (by simp)
              ·rw [if_neg c18] at H
               exact absurd H (by simp)
             ·rw [if_neg c17] at H
              exact absurd H (by simp)
            ·rw [if_neg c16] at H
             exact absurd H (by simp)
           ·rw [if_neg c15] at H
            exact absurd H (by simp)
          ·rw [if_neg c14] at H
           have c14b0 : decide (x16_2 < (l0.length : Int)) = false := decide_eq_false c14
           clear c14
           by_cases c40 : 0 ≤ x15_2
           ·rw [if_pos c40] at H
            have c40b0 := eq_true c40
            have c40b1 : decide (0 ≤ x15_2) = true := decide_eq_true c40
            clear c40
            by_cases c41 : x15_2 ≤ (l1.length : Int)
            ·rw [if_pos c41] at H
             have c41b0 := eq_true c41
             have c41b1 : decide (x15_2 ≤ (l1.length : Int)) = true := decide_eq_true c41
             clear c41
             replace H := Option.bind_eq_some_iff.mp H
             obtain ⟨t169, A420, H⟩ := H
             replace H : ((redlineref21_add.f x14_2 t169).bind fun t170 => (some (t170, 0))) = some (r1, r2) := H
             have A42 := Aside0.mk A420
             clear A420
             replace H := Option.bind_eq_some_iff.mp H
             obtain ⟨t170, A430, H⟩ := H
             replace H : (some (t170, 0)) = some (r1, r2) := H
             have A43 := Aside0.mk A430
             clear A430
             simp only [Option.some.injEq, Prod.mk.injEq] at H
             obtain ⟨rfl, rfl⟩ := H
             obtain ⟨i044, hi044, _, hsz44, _⟩ := info_parts info9
             obtain ⟨A44, hcut44, hA44, hC44⟩ := print_drop_of (P := Try.prog) Value.string (⟨#[]⟩ : ByteArray) 23 9 .i64 Try.underlying23 hi044 hsz44 A1 c1 l1 x15_2 (of_decide_eq_true (by first | (with_reducible assumption) | assumption)) (of_decide_eq_true (by first | (with_reducible assumption) | assumption)) HC1.out
             have HR168 := Aside0.mk (Kd.C_of_reads (h1 := fun _ => rfl) (hA44 _ (Kd.reads_of_C HR1.out)))
             have HC168 := Aside0.mk hC44
             clear hA44 hC44 hi044 hsz44
             go_wp2_with (first | ((with_reducible refine gate_callee (f := 56) rfl ?_); refine goesL_ (some 113) rfl rfl Try.func56 (by kernel_rfl) rfl #[.slice A44 (l1.drop (x15_2 : Int).toNat).length (c1 - x15_2.toNat)] rfl (by (try simp only [List.map_toArray, List.map_cons, List.map_nil]); first | done | (rw [show (l1.drop (x15_2 : Int).toNat).length = (l1.length - x15_2.toNat) from List.length_drop] <;> rfl) | rfl | (simp only [List.length_drop, List.length_take]; rfl)) ?_; (with_reducible refine (redlineref21_Lines.calls k2 _ _ (l1.drop (x15_2 : Int).toNat) t169 _ ?side1 ?side2 A42.out).mono ?_); (case side1 => repeat (first | exact (Kd.C_below HR168.out HB.out) | (with_reducible refine Kd.C_alloc ?_ _) | (with_reducible refine Kd.C_drewN ?_ _) | (with_reducible refine Kd.C_drew ?_))); (case side2 => exact HC168.out); rintro e w' ⟨rfl, ⟨nd, rfl⟩⟩; refine ⟨_, rfl, ?_⟩) | ((with_reducible refine gate_callee (f := 55) rfl ?_); refine goesL_ (some 114) rfl rfl Try.func55 (by kernel_rfl) rfl #[.string x14_2, .string t169] rfl (by (try simp only [List.map_toArray, List.map_cons, List.map_nil]); first | done | rfl | (simp only [List.length_drop, List.length_take]; rfl)) ?_; (with_reducible refine (redlineref21_add.calls x14_2 t169 t170 _ A43.out).mono ?_); rintro e w' ⟨rfl, ⟨nd, rfl⟩⟩; refine ⟨_, rfl, ?_⟩))
             go_ret2
             exact ⟨by first | rfl | (simp [errW_none, errW_some] <;> rfl) | (simp [*, errW_none, errW_some] <;> rfl), by repeat (first | (with_reducible first | exact HB.out | apply below_alloc | apply pw_below_drewN | apply below_drew1) | exact HB.out)⟩
            ·rw [if_neg c41] at H
             exact absurd H (by simp)
           ·rw [if_neg c40] at H
            exact absurd H (by simp)
  ·rw [if_neg c6] at H
   have c6b0 : (t164 == 0) = false := beq_eq_false_iff_ne.mpr c6
   have c6b1 : (t164 != 0) = true := bne_iff_ne.mpr c6
   simp only [Option.some.injEq, Prod.mk.injEq] at H
   obtain ⟨rfl, rfl⟩ := H
   go_enter Try.func28, Try.ntmps28
   go_wp2_with (first | ((with_reducible refine gate_callee (f := 27) rfl ?_); refine goesL_ (some 25) rfl rfl Try.func27 (by kernel_rfl) rfl #[.slice A0 l0.length c0, .int .i64 (l1.length : Int), .int .i64 (l2.length : Int)] rfl (by (try simp only [List.map_toArray, List.map_cons, List.map_nil]); first | done | rfl | (simp only [List.length_drop, List.length_take]; rfl)) ?_; (with_reducible refine (redlineref05_Check.calls k _ _ l0 (l1.length : Int) (l2.length : Int) t164 _ ?side1 ?side2 A5.out).mono ?_); (case side1 => repeat (first | exact HR0.out | (with_reducible refine Kd.C_alloc ?_ _) | (with_reducible refine Kd.C_drewN ?_ _) | (with_reducible refine Kd.C_drew ?_))); (case side2 => exact HC0.out); rintro e w45 ⟨rfl, hb⟩; refine ⟨_, rfl, ?_⟩; have n0_ := Aside0.mk (below_step (by repeat (first | (with_reducible first | exact HB.out | apply below_alloc | apply pw_below_drewN | apply below_drew1) | exact HB.out)) hb); clear HB; have HB := n0_; clear n0_; (try clear hb); (try clear hb2); (try clear hk); (try clear hi)))
   go_ret2
   exact ⟨by first | rfl | (simp [errW_none, errW_some] <;> rfl) | (simp [*, errW_none, errW_some] <;> rfl), by repeat (first | (with_reducible first | exact HB.out | apply below_alloc | apply pw_below_drewN | apply below_drew1) | exact HB.out)⟩
end Go.Proofs.Ytglffceopijogaa.X
