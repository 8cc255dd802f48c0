import Derived.Test.YtonbplflmdpikaaZOXx0
namespace Go.Proofs.Ytonbplflmdpikaa.X
open Go.RowKit Go.Proofs.YtonbplflmdpikaaW.PrintWords Go.Proofs.YtonbplflmdpikaaW.PrintLast Go.Proofs.YtonbplflmdpikaaW.PrintMore
attribute [local go_sem] max2_int min2_int max_two min_two max_three min_three max_four min_four   -- for this text's walks alone
open Go.Proofs.YtonbplflmdpikaaW.HandWords
set_option linter.unusedVariables false
set_option linter.unusedSimpArgs false
def minimal_of.row (x y : List Int) (w i : Nat) : Nat → List Int → List Int
  | 0, T => T
  | j + 1, T => minimal_of.row x y w i j (T.set (i * w + j) (if x.getD i 0 = y.getD j 0 then IntKind.u16.wrap (T.getD ((i + 1) * w + (j + 1)) 0 + 1) else mx (T.getD ((i + 1) * w + j) 0) (T.getD (i * w + (j + 1)) 0)))
def minimal_of.rows (x y : List Int) (w : Nat) : Nat → List Int → List Int
  | 0, T => T
  | i + 1, T => minimal_of.rows x y w i (minimal_of.row x y w i y.length T)
def minimal_of.f (l0 l1 : List Int) : Option (Int × List Int) :=
  if (l0.length + 1) * (l1.length + 1) ≤ 100000000 then some ((l1.length : Int) + 1, minimal_of.rows l0 l1 (l1.length + 1) l0.length (List.replicate ((l0.length + 1) * (l1.length + 1)) 0)) else none
set_option maxHeartbeats 2000000 in
set_option maxRecDepth 100000 in
theorem minimal_of.calls (A0 : Option Addr) (c0 : Nat) (l0 : List Int) (A1 : Option Addr) (c1 : Nat) (l1 : List Int) (r1 : Int) (r2 : List Int) (w : World) (hr0 : Kd.C (Kd.int .i64) w A0 l0.length l0) (hc0 : l0.length ≤ c0) (hr1 : Kd.C (Kd.int .i64) w A1 l1.length l1) (hc1 : l1.length ≤ c1) 
   (h : minimal_of.f l0 l1 = some (r1, r2)) :
    Calls Try.prog 35 #[.slice A0 l0.length c0, .slice A1 l1.length c1] w fun e w' => ∃ v1_, e = .returned (.agg #[.int .i64 r1, v1_]) ∧ Kd.R (Kd.int .u16) 66 w' w.heap.size (fun _ => True) v1_ r2 ∧ Below w.heap.size w w' := by
  unfold minimal_of.f at h
  by_cases hlen : (l0.length + 1) * (l1.length + 1) ≤ 100000000
  case neg => rw [if_neg hlen] at h; cases h
  rw [if_pos hlen] at h
  simp only [Option.some.injEq, Prod.mk.injEq] at h
  obtain ⟨rfl, h⟩ := h
  have HR0 := Aside0.mk hr0
  have HC0 := Aside0.mk hc0
  clear hr0 hc0
  have HR1 := Aside0.mk hr1
  have HC1 := Aside0.mk hc1
  clear hr1 hc1
  have HLEN := Aside0.mk hlen
  have hn : l0.length + 1 ≤ 100000000 := by
    refine Nat.le_trans (Nat.le_mul_of_pos_right _ (by omega)) hlen
  have hm : l1.length + 1 ≤ 100000000 := by
    refine Nat.le_trans (Nat.le_mul_of_pos_left _ (by omega)) hlen
  clear hlen
  have HR := Aside0.mk h
  clear h
  have HB := Aside0.mk (Below.refl w.heap.size w)
  obtain ⟨L, hL⟩ : ∃ L : Int, wrap64 (((l0.length : Int) + 1) * ((l1.length : Int) + 1)) = L := ⟨_, rfl⟩
  have HL : Aside0 (L = (((l0.length + 1) * (l1.length + 1) : Nat) : Int)) := ⟨by rw [← hL]; push_cast; have := HLEN.out; unfold wrap64; have h2 : (((l0.length + 1) * (l1.length + 1) : Nat) : Int) ≤ 100000000 := by omega
                                                                                  push_cast at h2; have h3 : 0 ≤ ((l0.length : Int) + 1) * ((l1.length : Int) + 1) := Int.mul_nonneg (by omega) (by omega)
                                                                                  omega⟩
  have hLw := (i64_w _).trans hL
  go_enter Try.func35, Try.ntmps35
  have hN0 : 0 < (List.replicate ((l0.length + 1) * (l1.length + 1)) (0 : Int)).length := by rw [List.length_replicate]; exact Nat.mul_pos (by omega) (by omega)
  have HN0 := Aside0.mk hN0
  clear hN0
  go_wp2_with (first | ((with_reducible refine gate_dst (N := 4) rfl ?_); refine box_event ?hg (N := 4) ?hd (cs := #[.int .i64 0, .slice none 0 0]) (t := 69) ?hr ?_; (case hd => rfl); (case hg => rfl); (case hr => first | (go_simp; done) | (go_simp; rfl)); intro gb4 hg w6 hbox hb; have n1_ := Aside0.mk (below_step HB.out hb); clear HB; have HB := n1_; have BK4 := Aside0.mk hbox; clear hbox; have HG4 := Aside0.mk hg; have HGE4 := Aside0.mk (by rw [hg]; exact Nat.le_refl _ : w.heap.size ≤ gb4); clear hg hb n1_) | ((with_reducible refine gate_dst (N := 20) rfl ?_); refine Kd.R_make (Kd.int .u16) _ 66 rfl (N := 20) rfl 67 _ _ rfl L rfl rfl Try.underlying67 (.int .u16 0) 2 info66 rfl (by decide) (by omega) 0 (ok := fun _ => True) (okp := fun _ => True) rfl (fun _ hk => hk) trivial (by rw [HL.out]; omega) (by rw [HL.out]; have := HLEN.out; omega) HB.out (by exact HB.out.size) ?_; intro v20 w7 ho20 hb20 hg20 hnew20; rw [HL.out, Int.toNat_natCast] at ho20; obtain ⟨g20, cap20, rfl, hcap20⟩ := R_form ho20 HN0.out; have HO := Aside0.mk ho20; have n1_ := Aside0.mk (blk_grown BK4.out hg20 (by simp)); clear BK4; have BK4 := n1_; clear n1_ HB; have HB := Aside0.mk hb20; obtain ⟨_, hq1, hq2⟩ := hnew20; clear hb20 hg20 ho20 hq1 hq2) | ((with_reducible refine gate_dst (N := 5) rfl ?_); refine box_event ?hg (N := 5) ?hd (cs := #[.int .i64 0, .slice none 0 0]) (t := 69) ?hr ?_; (case hd => rfl); (case hg => rfl); (case hr => first | (go_simp; done) | (go_simp; rfl)); intro gb5 hg w8 hbox hb; have HBo := HB; have n1_ := Aside0.mk (below_step HB.out hb); clear HB; have HB := n1_; have BK5 := Aside0.mk hbox; clear hbox; have HG5 := Aside0.mk hg; have HGE5 := Aside0.mk (by rw [hg]; exact HBo.out.size : w.heap.size ≤ gb5); clear hg n1_ HBo; have HLT4 := Aside0.mk (blk_lt BK4.out); have n1_ := Aside0.mk (blk_below BK4.out hb); clear BK4; have BK4 := n1_; clear n1_;  have n1_ := Aside0.mk (Kd.R_below HO.out hb); clear HO; have HO := n1_; clear n1_ hb; have f0 := blk_frozen BK5.out 0;  have f1 := blk_frozen BK5.out 1; have f2 := (blk_cell BK5.out 0).trans rfl;  have f3 := (blk_cell BK5.out 1).trans rfl))
  have BK5' := Aside0.mk (blk_set (blk_set BK5.out 0 (Value.int IntKind.i64 (↑l1.length + 1))) 1 (Value.slice (some ⟨g20, 0, none⟩) ((l0.length + 1) * (l1.length + 1)) cap20))
  have n54 : gb4 ≠ gb5 := by have h1 := HLT4.out; have h3 := HG5.out; omega
  have n45 := Aside0.mk n54
  clear n54 f0 f1 f2 f3
  have BK4' := Aside0.mk (blk_far (blk_far BK4.out (p := ⟨gb5, 0, none⟩) n45.out (Value.int IntKind.i64 (↑l1.length + 1))) (p := ⟨gb5, 1, none⟩) n45.out (Value.slice (some ⟨g20, 0, none⟩) ((l0.length + 1) * (l1.length + 1)) cap20))
  have HO' := Aside0.mk (Kd.R_set (Kd.R_set HO.out BK5.out (by decide) 0 (Value.int IntKind.i64 (↑l1.length + 1))) (blk_set BK5.out 0 (Value.int IntKind.i64 (↑l1.length + 1))) (by decide) 1 (Value.slice (some ⟨g20, 0, none⟩) ((l0.length + 1) * (l1.length + 1)) cap20))
  have HB' := Aside0.mk (below_set (below_set HB.out (j := 0) (v := Value.int IntKind.i64 (↑l1.length + 1)) HGE5.out) (j := 1) (v := Value.slice (some ⟨g20, 0, none⟩) ((l0.length + 1) * (l1.length + 1)) cap20) HGE5.out)
  clear BK5 BK4 HO HB
  obtain ⟨NN, hNN⟩ : ∃ NN : Nat, NN = (l0.length + 1) * (l1.length + 1) := ⟨_, rfl⟩
  have HNN := Aside0.mk hNN
  rw [← hNN] at BK5' HO' BK4' HB'
  rw [← hNN]
  clear hNN
  go_loopg [6] l0.length (fun i v6 w' => ∃ (z : Int) (T : List Int), v6 = .int .i64 z ∧ -1 ≤ z ∧ z < 100000000 ∧ Aside0 (z = (i : Int) - 1 ∧ i ≤ l0.length) ∧ Aside0 (minimal_of.rows l0 l1 (l1.length + 1) i T = r2) ∧ Aside0 (T.length = NN) ∧ Aside0 (Kd.R (Kd.int .u16) 66 w' w.heap.size (fun _ => True) (.slice (some ⟨g20, 0, none⟩) NN cap20) T) ∧ Aside0 (w'.heap[gb5]? = some (.cells #[Value.int IntKind.i64 (↑l1.length + 1), Value.slice (some ⟨g20, 0, none⟩) NN cap20] 69 (0, 0))) ∧ Aside0 (w'.heap[gb4]? = some (.cells #[.int .i64 0, .slice none 0 0] 69 (0, 0))) ∧ Aside0 (Below w.heap.size w w'))
  case atStart => exact ⟨(l0.length : Int) - 1, List.replicate NN 0, rfl, by omega, by omega, ⟨rfl, Nat.le_refl _⟩, ⟨by rw [HNN.out]; exact HR.out⟩, ⟨List.length_replicate⟩, ⟨by have h := HO'.out; rw [List.length_replicate] at h; exact h⟩, BK5', BK4', HB'⟩
  case round =>
    clear BK4' HO' BK5' HB' HR
    obtain ⟨z, T, rfl, hz1, hz2, HZ, HA, HT, HO, BK5, BK4, HB⟩ := hrel
    cases gk with
    | zero =>
      have hzz : z = -1 := by have := HZ.out.1; omega
      subst hzz
      have f0 := blk_frozen BK4.out 0
      have f1 := blk_frozen BK4.out 1
      have f2 : wr.cell? ⟨gb4, 0, none⟩ = some (.int .i64 0) := (blk_cell BK4.out 0).trans rfl
      have f3 : wr.cell? ⟨gb4, 1, none⟩ = some (.slice none 0 0) := (blk_cell BK4.out 1).trans rfl
      have f4 : wr.cell? ⟨gb5, 0, none⟩ = some (Value.int IntKind.i64 (↑l1.length + 1)) := (blk_cell BK5.out 0).trans rfl
      have f5 : wr.cell? ⟨gb5, 1, none⟩ = some (Value.slice (some ⟨g20, 0, none⟩) NN cap20) := (blk_cell BK5.out 1).trans rfl
      go_wp2
      refine bodyPost_ret (results_cell_row rfl _ _ gb4 69 #[.int .i64 ((l1.length : Int) + 1), .slice (some ⟨g20, 0, none⟩) NN cap20] (0, 0) _ rfl (blk_set (blk_set BK4.out 0 _) 1 _) Try.underlying69 rfl (by kernel_rfl)) rfl ?_
      have h := HA.out
      simp only [minimal_of.rows] at h
      subst h
      exact ⟨_, rfl, Kd.R_set (Kd.R_set HO.out BK4.out (by decide) 0 _) (blk_set BK4.out 0 _) (by decide) 1 _, below_set (below_set HB.out HGE4.out) HGE4.out⟩
    | succ i1 =>
      obtain ⟨po, hpo⟩ : ∃ po : Nat, po = i1 * (l1.length + 1) := ⟨_, rfl⟩
      obtain ⟨qo, hqo⟩ : ∃ qo : Nat, qo = (i1 + 1) * (l1.length + 1) := ⟨_, rfl⟩
      have hNN := HNN.out
      have HI : Aside0 (i1 + 1 ≤ l0.length) := ⟨HZ.out.2⟩
      have hz0 : 0 ≤ z := by have := HZ.out.1; omega
      have e1 : qo = po + (l1.length + 1) := by rw [hqo, hpo, Nat.add_mul, Nat.one_mul]
      have e2 : qo + (l1.length + 1) ≤ NN := by
        rw [hqo, hNN]
        have := Nat.mul_le_mul_right (l1.length + 1) (show (i1 + 1) + 1 ≤ l0.length + 1 by have := HI.out; omega)
        rw [Nat.add_mul, Nat.one_mul] at this
        exact this
      have e3 : NN ≤ 100000000 := by rw [hNN]; exact HLEN.out
      have hzi : z = (i1 : Int) := by have := HZ.out.1; omega
      have hp : wrap64 (z * ((l1.length : Int) + 1)) = (po : Int) := by
        have : z * ((l1.length : Int) + 1) = (po : Int) := by rw [hzi, hpo]; push_cast; rfl
        rw [this]; unfold wrap64; omega
      have hq : wrap64 ((z + 1) * ((l1.length : Int) + 1)) = (qo : Int) := by
        have : (z + 1) * ((l1.length : Int) + 1) = (qo : Int) := by rw [hzi, hqo]; push_cast; rfl
        rw [this]; unfold wrap64; omega
      have hpw := (i64_w _).trans hp
      have hqw := (i64_w _).trans hq
      obtain ⟨i53, hi53, hs53, hc54⟩ : ∃ i53, Try.prog.info? 66 = some i53 ∧ i53.size = 1 ∧ NN ≤ cap20 := ⟨_, rfl, rfl, by have h1 := hcap20; simp at h1; omega⟩
      have hs1 : ∀ W : World, (Instr.slice 67 (.slice (some ⟨g20, 0, none⟩) NN cap20) (some (.int .i64 (po : Int))) (some (.int .i64 (qo : Int))) none).run Try.prog W = .ok (.slice (some ⟨g20, po, none⟩) (l1.length + 1) (cap20 - po)) W := by
        intro W
        have := run_cut 67 66 Try.underlying67 hi53 hs53 g20 0 NN cap20 (po : Int) (qo : Int) (by omega) (by omega) (by omega) (by omega) W
        rw [show ((qo : Int)).toNat - ((po : Int)).toNat = l1.length + 1 from by omega, show 0 + ((po : Int)).toNat = po from by omega, show cap20 - ((po : Int)).toNat = cap20 - po from by omega] at this
        exact this
      have hs2 : ∀ W : World, (Instr.slice 67 (.slice (some ⟨g20, 0, none⟩) NN cap20) (some (.int .i64 (qo : Int))) none none).run Try.prog W = .ok (.slice (some ⟨g20, qo, none⟩) (NN - qo) (cap20 - qo)) W := by
        intro W
        have := run_cut_l 67 66 Try.underlying67 hi53 hs53 g20 0 NN cap20 (qo : Int) (by omega) (by omega) (by omega) W
        rw [show NN - ((qo : Int)).toNat = NN - qo from by omega, show 0 + ((qo : Int)).toNat = qo from by omega, show cap20 - ((qo : Int)).toNat = cap20 - qo from by omega] at this
        exact this
      have f4 : wr.cell? ⟨gb5, 0, none⟩ = some (Value.int IntKind.i64 (↑l1.length + 1)) := (blk_cell BK5.out 0).trans rfl
      have f5 : wr.cell? ⟨gb5, 1, none⟩ = some (Value.slice (some ⟨g20, 0, none⟩) NN cap20) := (blk_cell BK5.out 1).trans rfl
      have HE := Aside0.mk (And.intro e1 (And.intro e2 (And.intro e3 (And.intro hpo (And.intro hqo hNN)))))
      have HZI := Aside0.mk hzi
      clear e1 e2 e3 hpo hqo hNN hzi hi53 hs53 hc54
      go_wp2
      repeat (go_quiet (fail); try go_wp2)
      have e5 := HE.out.1
      have e6 := HE.out.2.1
      have HO1 : Aside0 (Kd.R (Kd.int .u16) 66 (wr.drewN nq) w.heap.size (fun _ => True) (.slice (some ⟨g20, 0, none⟩) NN cap20) T) := ⟨Kd.R_drewN HO.out nq⟩
      have HB1 := Aside0.mk (pw_below_drewN HB.out nq)
      clear hs1 hs2 hp hq hpw hqw f4 f5
      obtain ⟨ad0, ea0, hx0⟩ := Kd.at_int HR0.out z hz0 (by have := HI.out; have := HZI.out; omega)
      cases ea0
      have HX0 := Aside0.mk hx0
      have hzl : decide (z < (l0.length : Int)) = true := decide_eq_true (by have := HI.out; have := HZI.out; omega)
      clear hx0 e5 e6
      go_loopg [9] l1.length (fun j v9 w' => ∃ (y9 : Int) (T : List Int), v9 = .int .i64 y9 ∧ -1 ≤ y9 ∧ y9 < 100000000 ∧ Aside0 (y9 = (j : Int) - 1 ∧ j ≤ l1.length) ∧ Aside0 (minimal_of.rows l0 l1 (l1.length + 1) i1 (minimal_of.row l0 l1 (l1.length + 1) i1 j T) = r2) ∧ Aside0 (T.length = NN) ∧ Aside0 (Kd.R (Kd.int .u16) 66 w' w.heap.size (fun _ => True) (.slice (some ⟨g20, 0, none⟩) NN cap20) T) ∧ Aside0 (w'.heap[gb5]? = some (.cells #[Value.int IntKind.i64 (↑l1.length + 1), Value.slice (some ⟨g20, 0, none⟩) NN cap20] 69 (0, 0))) ∧ Aside0 (w'.heap[gb4]? = some (.cells #[.int .i64 0, .slice none 0 0] 69 (0, 0))) ∧ Aside0 (Below w.heap.size w w'))
      case atStart => exact ⟨(l1.length : Int) - 1, T, rfl, by omega, by omega, ⟨rfl, Nat.le_refl _⟩, HA, HT, HO1, ⟨blk_drewN BK5.out nq⟩, ⟨blk_drewN BK4.out nq⟩, HB1⟩
      case round =>
        clear HA HT HO HO1 BK5 BK4 HB HB1
        obtain ⟨y9, T, rfl, hy1, hy2, HY, HA, HT, HO, BK5, BK4, HB⟩ := hrel
        cases gk with
        | zero =>
          have hyy : y9 = -1 := by have := HY.out.1; omega
          subst hyy
          go_wp2
          repeat (go_quiet (fail); try go_wp2)
          go_roundg i1
          case measure => omega
          case rel => exact ⟨z - 1, T, rfl, by omega, by omega, ⟨by have := HZI.out; omega, by have := HI.out; omega⟩, HA, HT, HO, BK5, BK4, HB⟩
        | succ j1 =>
          have HYI := Aside0.mk (show y9 = (j1 : Int) by have := HY.out.1; omega)
          have HJ := Aside0.mk HY.out.2
          have hy0 : 0 ≤ y9 := by have := HYI.out; omega
          obtain ⟨ad1, ea1, hx1⟩ := Kd.at_int HR1.out y9 hy0 (by have := HJ.out; have := HYI.out; omega)
          cases ea1
          have hx0 := HX0.out
          replace hx0 := (HB.out.cell (World.block_lt_of_cell? w _ hx0)).trans hx0
          replace hx1 := (HB.out.cell (World.block_lt_of_cell? w _ hx1)).trans hx1
          have hyl : decide (y9 < (l1.length : Int)) = true := decide_eq_true (by have := HJ.out; have := HYI.out; omega)
          have p1 := eq_true hz0
          have p2 := eq_true (of_decide_eq_true hzl)
          have p3 := eq_true hy0
          have p4 := eq_true (of_decide_eq_true hyl)
          have p5 := eq_true (show y9 + 1 < ((NN - qo : Nat) : Int) by have := HE.out; have := HJ.out; have := HYI.out; omega)
          have p6 := eq_true (show y9 < ((NN - qo : Nat) : Int) by have := HE.out; have := HJ.out; have := HYI.out; omega)
          have p7 := eq_true (show y9 < (l1.length : Int) + 1 by have := HJ.out; have := HYI.out; omega)
          have p8 := eq_true (show y9 + 1 < (l1.length : Int) + 1 by have := HJ.out; have := HYI.out; omega)
          have hq1 : qo + (y9 + 1).toNat < T.length := by have := HT.out; have := HE.out; have := HJ.out; have := HYI.out; omega
          have hq2 : po + y9.toNat < T.length := by have := HT.out; have := HE.out; have := HJ.out; have := HYI.out; omega
          have hq3 : qo + y9.toNat < T.length := by have := HT.out; have := HE.out; have := HJ.out; have := HYI.out; omega
          have hq4 : po + (y9 + 1).toNat < T.length := by have := HT.out; have := HE.out; have := HJ.out; have := HYI.out; omega
          obtain ⟨fa1, fb1⟩ := R_cell_nat HO.out _ hq1
          obtain ⟨fa2, fb2⟩ := R_cell_nat HO.out _ hq2
          obtain ⟨fa3, fb3⟩ := R_cell_nat HO.out _ hq3
          obtain ⟨fa4, fb4⟩ := R_cell_nat HO.out _ hq4
          clear hq1 hq2 hq3 hq4 fb1 fb3 fb4
          obtain ⟨d1, hd1⟩ : ∃ d, d = T.getD (qo + (y9 + 1).toNat) 0 := ⟨_, rfl⟩
          obtain ⟨d3, hd3⟩ : ∃ d, d = T.getD (qo + y9.toNat) 0 := ⟨_, rfl⟩
          obtain ⟨d4, hd4⟩ : ∃ d, d = T.getD (po + (y9 + 1).toNat) 0 := ⟨_, rfl⟩
          rw [← hd1] at fa1
          rw [← hd3] at fa3
          rw [← hd4] at fa4
          have HD := Aside0.mk (And.intro hd1 (And.intro hd3 hd4))
          clear hd1 hd3 hd4
          by_cases hc : rd l0 z = rd l1 y9
          · have c0 : ((rd l0 z) == (rd l1 y9)) = true := beq_iff_eq.mpr hc
            have HC := Aside0.mk hc
            clear hc
            go_wp2
            repeat (go_quiet (fail); try go_wp2)
            go_roundg j1
            case measure => omega
            case rel =>
              refine ⟨y9 - 1, T.set (po + y9.toNat) (IntKind.u16.wrap (d1 + 1)), rfl, by omega, by omega, ⟨by have := HYI.out; omega, by have := HJ.out; omega⟩, ⟨?_⟩, ⟨by rw [List.length_set]; exact HT.out⟩, ⟨R_store_nat (Kd.R_drewN HO.out _) _ _⟩, ⟨blk_far (blk_drewN BK5.out _) (by have h := Kd.R_ne HO.out BK5.out (by decide); simpa [Value.ownBlock] using h) _⟩, ⟨blk_far (blk_drewN BK4.out _) (by have h := Kd.R_ne HO.out BK4.out (by decide); simpa [Value.ownBlock] using h) _⟩, ⟨below_set (pw_below_drewN HB.out _) (R_base HO.out)⟩⟩
              have t1 : y9.toNat = j1 := by have := HYI.out; omega
              have t2 : (y9 + 1).toNat = j1 + 1 := by have := HYI.out; omega
              have t0 : z.toNat = i1 := by have := HZI.out; omega
              have h := HA.out
              have h5 := HC.out
              unfold rd at h5
              rw [t0, t1] at h5
              rw [minimal_of.row, if_pos h5, ← HE.out.2.2.2.1, ← HE.out.2.2.2.2.1] at h
              have hd := HD.out
              rw [t1, t2] at hd
              rw [t1, hd.1]
              exact h
          · have c0 : ((rd l0 z) == (rd l1 y9)) = false := beq_eq_false_iff_ne.mpr hc
            have HC := Aside0.mk hc
            clear hc
            obtain ⟨jx, hjx⟩ : ∃ j, mx d3 d4 = j := ⟨_, rfl⟩
            have hjx' : (if d3 < d4 then d4 else d3) = jx := hjx
            go_wp2
            repeat (go_quiet (fail); try go_wp2)
            go_region
            go_wp2
            go_roundg j1
            case measure => omega
            case rel =>
              refine ⟨y9 - 1, T.set (po + y9.toNat) (jx), rfl, by omega, by omega, ⟨by have := HYI.out; omega, by have := HJ.out; omega⟩, ⟨?_⟩, ⟨by rw [List.length_set]; exact HT.out⟩, ⟨R_store_nat (Kd.R_drewN HO.out _) _ _⟩, ⟨blk_far (blk_drewN BK5.out _) (by have h := Kd.R_ne HO.out BK5.out (by decide); simpa [Value.ownBlock] using h) _⟩, ⟨blk_far (blk_drewN BK4.out _) (by have h := Kd.R_ne HO.out BK4.out (by decide); simpa [Value.ownBlock] using h) _⟩, ⟨below_set (pw_below_drewN HB.out _) (R_base HO.out)⟩⟩
              have t1 : y9.toNat = j1 := by have := HYI.out; omega
              have t2 : (y9 + 1).toNat = j1 + 1 := by have := HYI.out; omega
              have t0 : z.toNat = i1 := by have := HZI.out; omega
              have h := HA.out
              have h5 := HC.out
              unfold rd at h5
              rw [t0, t1] at h5
              rw [minimal_of.row, if_neg h5, ← HE.out.2.2.2.1, ← HE.out.2.2.2.2.1] at h
              have hd := HD.out
              rw [t1, t2] at hd
              rw [t1, ← hjx, hd.2.1, hd.2.2]
              exact h
end Go.Proofs.Ytonbplflmdpikaa.X
