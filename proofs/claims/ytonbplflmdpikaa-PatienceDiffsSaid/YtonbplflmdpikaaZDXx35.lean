import Derived.Test.YtonbplflmdpikaaZDXx0
import Derived.Test.YtonbplflmdpikaaZDXx34
import Derived.Deep.RegionWith
namespace Go.Proofs.Ytonbplflmdpikaa.X
open Go.RowKit Go.Proofs.YtonbplflmdpikaaW.PrintWords Go.Proofs.YtonbplflmdpikaaW.PrintLast Go.Proofs.YtonbplflmdpikaaW.PrintMore
attribute [local go_sem] max2_int min2_int max_two min_two max_three min_three max_four min_four   -- for this text's walks alone
open Go.Proofs.YtonbplflmdpikaaW.HandWords
set_option linter.unusedVariables false
set_option linter.unusedSimpArgs false
def ls_lay (c : Int) : Nat → List Int → List Int → List Int
  | _, [], T => T
  | p, v :: vs, T => ls_lay c (p + 1) vs (if v ≥ 0 then T.set p (wrap64 (c + v)) else T)
def redlineref07_Least.f (k : Nat) (l0 l1 l2 : List Int) (a b c d : Int) : Option (List Int) :=
  if (0 ≤ a ∧ a ≤ b ∧ b ≤ (l1.length : Int) ∧ 0 ≤ c ∧ c ≤ d ∧ d ≤ (l2.length : Int)) ∧ b ≤ (l0.length : Int) ∧ b ≤ 1000000 then
    (redlineref06_Keeps.f k ((l1.take b.toNat).drop a.toNat) ((l2.take d.toNat).drop c.toNat)).bind fun t => if t.length ≤ b.toNat - a.toNat then some (ls_lay c a.toNat t l0) else none
  else none
set_option maxHeartbeats 2000000 in
set_option maxRecDepth 100000 in
theorem redlineref07_Least.calls (k : Nat) (P0_ : Nat → Prop) (u9000_ : Value) (l0 : List Int) (A1 : Option Addr) (c1 : Nat) (l1 : List Int) (A2 : Option Addr) (c2 : Nat) (l2 : List Int) (a3_0 : Int) (a3_1 : Int) (a3_2 : Int) (a3_3 : Int) (r : List Int) (w0 w : World) (hB : Below w0.heap.size w0 w) (ho0 : Kd.R (Kd.int .i64) 3 w w0.heap.size P0_ u9000_ l0) (hr1 : ∀ W_, Kept w W_ (fun k_ => P0_ k_) → Kd.C (Kd.int .i64) W_ A1 l1.length l1) (hc1 : l1.length ≤ c1) (hr2 : ∀ W_, Kept w W_ (fun k_ => P0_ k_) → Kd.C (Kd.int .i64) W_ A2 l2.length l2) (hc2 : l2.length ≤ c2) (h : redlineref07_Least.f k l0 l1 l2 a3_0 a3_1 a3_2 a3_3 = some r) :
    Calls Try.prog 41 #[u9000_, .slice A1 l1.length c1, .slice A2 l2.length c2, .agg #[.int .i64 a3_0, .int .i64 a3_1, .int .i64 a3_2, .int .i64 a3_3]] w fun e w' => e = .returned (.tuple #[]) ∧ Kd.R (Kd.int .i64) 3 w' w0.heap.size (fun k_ => (P0_ k_ ∨ w.heap.size ≤ k_)) u9000_ r ∧ Below w0.heap.size w0 w' ∧ Kept w w' (fun k_ => P0_ k_) := by
  unfold redlineref07_Least.f at h
  by_cases hg : (0 ≤ a3_0 ∧ a3_0 ≤ a3_1 ∧ a3_1 ≤ (l1.length : Int) ∧ 0 ≤ a3_2 ∧ a3_2 ≤ a3_3 ∧ a3_3 ≤ (l2.length : Int)) ∧ a3_1 ≤ (l0.length : Int) ∧ a3_1 ≤ 1000000
  case neg => rw [if_neg hg] at h; cases h
  rw [if_pos hg] at h
  obtain ⟨⟨g1, g2, g3, g4, g5, g6⟩, g7, g8⟩ := hg
  obtain ⟨t, ht, h⟩ := Option.bind_eq_some_iff.mp h
  by_cases htl : t.length ≤ a3_1.toNat - a3_0.toNat
  case neg => rw [if_neg htl] at h; cases h
  rw [if_pos htl] at h
  have HA := Aside0.mk (Option.some.inj h)
  have HT := Aside0.mk ht
  clear h ht
  have hu70 := Try.underlying63
  have HU : Aside0 (∀ g, u9000_.ownBlock = some g → P0_ g ∧ g < w.heap.size ∧ w0.heap.size ≤ g) := ⟨by
    intro g hg
    refine ⟨ho0.1 g hg, ?_, Kd.R_base ho0 g hg⟩
    by_cases hl : 0 < l0.length
    · obtain ⟨g', cap, e, _, hlt, _⟩ := Kd.R_form ho0 hl
      rw [e] at hg
      simp [Value.ownBlock] at hg
      omega
    · have hl0 : l0 = [] := List.eq_nil_of_length_eq_zero (by omega)
      obtain ⟨cells, hc⟩ := own_typed (Kd.own_of_R ho0) g hg
      exact blk_lt hc⟩
  have HO := Aside0.mk (show Kd.R (Kd.int .i64) 3 w w0.heap.size (fun k_ => (P0_ k_ ∨ w.heap.size ≤ k_)) u9000_ l0 from Kd.R_mono ho0 (fun k_ hk => (.inl hk)))
  clear ho0
  have HR1 := Aside0.mk hr1
  have HC1 := Aside0.mk hc1
  clear hr1 hc1
  have HR2 := Aside0.mk hr2
  have HC2 := Aside0.mk hc2
  clear hr2 hc2
  have HK := Aside0.mk (Kept.refl w (fun k_ => P0_ k_))
  have HB := Aside0.mk hB
  clear hB
  obtain ⟨i1, hi1, hs1⟩ : ∃ i, Try.prog.info? 3 = some i ∧ i.size = 1 := ⟨_, rfl, rfl⟩
  obtain ⟨B1, hcut1, hA1, hC1⟩ := print_mid_of (P := Try.prog) (Value.int .i64) 0 22 3 .i64 .i64 Try.underlying22 hi1 hs1 A1 c1 l1 a3_0 a3_1 g1 g2 g3 HC1.out
  obtain ⟨B2, hcut2, hA2, hC2⟩ := print_mid_of (P := Try.prog) (Value.int .i64) 0 22 3 .i64 .i64 Try.underlying22 hi1 hs1 A2 c2 l2 a3_2 a3_3 g4 g5 g6 HC2.out
  have HD1 := Aside0.mk hC1
  have HD2 := Aside0.mk hC2
  have HE1 := Aside0.mk hA1
  have HE2 := Aside0.mk hA2
  clear hC1 hC2 hA1 hA2
  obtain ⟨X, hX⟩ : ∃ X, (l1.take a3_1.toNat).drop a3_0.toNat = X := ⟨_, rfl⟩
  obtain ⟨Y, hY⟩ : ∃ Y, (l2.take a3_3.toNat).drop a3_2.toNat = Y := ⟨_, rfl⟩
  rw [hX] at HT HD1 HE1 hcut1
  rw [hY] at HT HD2 HE2 hcut2
  have HX := Aside0.mk hX
  have HY := Aside0.mk hY
  clear hX hY
  go_enter Try.func41, Try.ntmps41
  go_upto_region 1 with (first | ((with_reducible refine gate_dst (N := 7) rfl ?_); refine box_event ?hg (N := 7) ?hd (cs := #[.int .i64 a3_0, .int .i64 a3_1, .int .i64 a3_2, .int .i64 a3_3]) (t := 63) ?hr ?_; (case hd => rfl); (case hg => rfl); (case hr => first | (go_simp; done) | (go_simp; rfl)); intro gb7 hg w7 hbox hb; have n0_ := Aside0.mk (Kd.R_below HO.out hb); have n1_ := Aside0.mk (Kept.below (S := (fun k_ => P0_ k_)) HK.out hb); have n2_ := Aside0.mk (HB.out.trans (hb.mono HB.out.size)); have n3_ := Aside0.mk (hg ▸ Nat.le_refl _ : w.heap.size ≤ gb7); have n4_ := Aside0.mk hbox; clear HO HK HB; have HO := n0_; have HK := n1_; have HB := n2_; have GE7 := n3_; have BK7 := n4_; clear n0_ n1_ n2_ n3_ n4_ hbox hb hg))
  have e0 : w7.cell? ⟨gb7, 0, none⟩ = some (.int .i64 a3_0) := (blk_cell BK7.out 0).trans rfl
  have e1 : w7.cell? ⟨gb7, 1, none⟩ = some (.int .i64 a3_1) := (blk_cell BK7.out 1).trans rfl
  have e2 : w7.cell? ⟨gb7, 2, none⟩ = some (.int .i64 a3_2) := (blk_cell BK7.out 2).trans rfl
  have e3 : w7.cell? ⟨gb7, 3, none⟩ = some (.int .i64 a3_3) := (blk_cell BK7.out 3).trans rfl
  have HR1' : Aside0 (Kd.C (Kd.int .i64) w7.drew B1 X.length X) := ⟨Kd.C_of_reads (h1 := fun _ => rfl) (by have h := HE1.out _ (Kd.reads_of_C (HR1.out w7.drew HK.out.drew)); exact h)⟩
  have HR2' : Aside0 (Kd.C (Kd.int .i64) w7.drew B2 Y.length Y) := ⟨Kd.C_of_reads (h1 := fun _ => rfl) (by have h := HE2.out _ (Kd.reads_of_C (HR2.out w7.drew HK.out.drew)); exact h)⟩
  (try simp only [Act.put, List.setIfInBounds_toArray, List.set_cons_zero, List.set_cons_succ])
  go_cut [8] (fun v8 wc => Aside0 (Kd.R (Kd.int .i64) 3 wc w.heap.size (fun k_ => w.heap.size ≤ k_) v8 t) ∧ Aside0 (Kd.R (Kd.int .i64) 3 wc w0.heap.size (fun k_ => (P0_ k_ ∨ w.heap.size ≤ k_)) u9000_ l0) ∧ Aside0 (wc.heap[gb7]? = some (.cells #[.int .i64 a3_0, .int .i64 a3_1, .int .i64 a3_2, .int .i64 a3_3] 63 (0, 0))) ∧ Aside0 (Kept w wc (fun k_ => P0_ k_)) ∧ Aside0 (Below w0.heap.size w0 wc))
  case first =>
    go_region_with (go_at_call 47; (with_reducible refine (redlineref06_Keeps.calls k B1 _ X B2 _ Y t _ HR1'.out HD1.out HR2'.out HD2.out HT.out).mono ?_); rintro e w8 ⟨v8, rfl, hk8, hb8⟩; have n0_ := Aside0.mk (Kd.R_below (Kd.R_drew HO.out) hb8); have n1_ := Aside0.mk (Kept.below (S := (fun k_ => P0_ k_)) (HK.out.drew) hb8); have n2_ := Aside0.mk ((below_drew1 HB.out).trans (hb8.mono (below_drew1 HB.out).size)); have n3_ := Aside0.mk (blk_below (blk_drew BK7.out) hb8); have hl := Kd.R_lower hk8 (base' := w.heap.size) HK.out.1; have n4_ : Aside0 (Kd.R (Kd.int .i64) 3 w8 w.heap.size (fun k_ => w.heap.size ≤ k_) v8 t) := ⟨Kd.R_of_own (Kd.own_of_R hl) (fun k_ hk => Kd.R_base hl k_ hk)⟩; clear HO HK HB BK7 hk8 hb8 hl e0 e1 e2 e3; have HO := n0_; have HK := n1_; have HB := n2_; have BK7 := n3_; have H8 := n4_; clear n0_ n1_ n2_ n3_ n4_)
    all_goals (go_wp2; go_meet)
    all_goals (case rel => exact ⟨H8, HO, BK7, HK, HB⟩)
  case rest =>
  clear HO HK HB BK7 e0 e1 e2 e3
  obtain ⟨H8, HO, BK7, HK, HB⟩ := hcut
  obtain ⟨Ao, co, eo⟩ := Kd.R_slice H8.out
  subst eo
  go_wp2
  have HA0 : Aside0 (ls_lay a3_2 (a3_0 + 0).toNat (t.drop (0 : Int).toNat) l0 = r) := ⟨by rw [show (a3_0 + 0).toNat = a3_0.toNat from by omega]; exact HA.out⟩
  clear HA hcut1 hcut2 HR1' HR2' HD1 HD2
  go_loopg [9] t.length (fun q v9 w' => ∃ (z : Int) (T : List Int), v9 = .int .i64 z ∧ 0 ≤ z ∧ z ≤ 1000000 ∧ Aside0 (z + (q : Int) = (t.length : Int)) ∧ Aside0 (T.length = l0.length) ∧ Aside0 (ls_lay a3_2 (a3_0 + z).toNat (t.drop z.toNat) T = r) ∧ Aside0 (Kd.R (Kd.int .i64) 3 w' w0.heap.size (fun k_ => (P0_ k_ ∨ w.heap.size ≤ k_)) u9000_ T) ∧ Aside0 (Kd.R (Kd.int .i64) 3 w' w.heap.size (fun k_ => w.heap.size ≤ k_) (.slice Ao t.length co) t) ∧ Aside0 (w'.heap[gb7]? = some (.cells #[.int .i64 a3_0, .int .i64 a3_1, .int .i64 a3_2, .int .i64 a3_3] 63 (0, 0))) ∧ Aside0 (Kept w w' (fun k_ => P0_ k_)) ∧ Aside0 (Below w0.heap.size w0 w'))
  case atStart => exact ⟨0, l0, rfl, by omega, by omega, ⟨by omega⟩, ⟨rfl⟩, HA0, HO, H8, BK7, HK, HB⟩
  case round =>
    clear HA0 HO H8 BK7 HK HB
    obtain ⟨z, T, rfl, hz0, hz1, HZ, HTL, HA, HO, H8, BK7, HK, HB⟩ := hrel
    cases gk with
    | zero =>
      have hzd : decide (z < (t.length : Int)) = false := decide_eq_false (by have := HZ.out; omega)
      have hr : T = r := by
        have h := HA.out
        rw [List.drop_eq_nil_of_le (by have := HZ.out; omega)] at h
        exact h
      subst hr
      go_wp2
      go_end0
      exact ⟨rfl, HO.out, HB.out, HK.out⟩
    | succ q1 =>
      have hzl : z < (t.length : Int) := by have := HZ.out; omega
      have hzd : decide (z < (t.length : Int)) = true := decide_eq_true hzl
      obtain ⟨g8, c8, e8, hg8, _⟩ := Kd.R_form H8.out (by omega)
      injection e8 with e81 e82 e83
      subst e81 e83
      have p1 := eq_true hz0
      have p2 := eq_true hzl
      obtain ⟨f1, f2⟩ := Kd.R_cell (0 : Int) H8.out z hz0 hzl
      have HG8 := Aside0.mk hg8
      obtain ⟨v, hv⟩ : ∃ v, rdOf 0 t z = v := ⟨_, rfl⟩
      rw [hv] at f1
      have HV : Aside0 (t.drop z.toNat = v :: t.drop (z.toNat + 1)) := ⟨by
        have hlt : z.toNat < t.length := by omega
        rw [List.drop_eq_getElem_cons hlt, ← hv]
        simp [rdOf, List.getD_eq_getElem?_getD, hlt]⟩
      clear hv f2 e82 hg8
      by_cases hc : v ≥ 0
      · have hcd : decide (v ≥ 0) = true := decide_eq_true hc
        have hcd2 : decide (0 ≤ v) = true := decide_eq_true hc
        have hlT : 0 < T.length := by have := HTL.out; have := HZ.out; omega
        obtain ⟨go, cu, eu, hgu, _⟩ := Kd.R_form HO.out hlT
        subst eu
        have hgo := HU.out go (by simp [Value.ownBlock])
        have HGO := Aside0.mk hgo
        clear hgo hgu
        have hpl : (a3_0 + z).toNat < T.length := by have := HTL.out; have := HZ.out; omega
        obtain ⟨f3, f4⟩ := R_cell_nat HO.out (a3_0 + z).toNat hpl
        have e0 : wr.cell? ⟨gb7, 0, none⟩ = some (.int .i64 a3_0) := (blk_cell BK7.out 0).trans rfl
        have e2 : wr.cell? ⟨gb7, 2, none⟩ = some (.int .i64 a3_2) := (blk_cell BK7.out 2).trans rfl
        obtain ⟨pl, hple⟩ : ∃ pl, a3_0 + z = pl := ⟨_, rfl⟩
        rw [hple] at f3 f4
        have hpw : wrap64 (a3_0 + z) = pl := by rw [← hple]; unfold wrap64; omega
        have hpw2 := (i64_w _).trans hpw
        have hp0 : 0 ≤ pl := by omega
        have hp1 : pl < (T.length : Int) := by rw [hple] at hpl; omega
        have p3 := eq_true hp0
        have p4 := eq_true hp1
        have HPL := Aside0.mk hple
        clear hple hpl hlT
        go_wp2
        go_region
        clear hpw hpw2
        go_wp2
        go_roundg q1
        case measure => omega
        case rel =>
          refine ⟨z + 1, T.set pl.toNat (wrap64 (a3_2 + v)), by go_num, by omega, by have := HZ.out; omega, ⟨by have := HZ.out; omega⟩, ⟨by rw [List.length_set]; exact HTL.out⟩, ⟨?_⟩, ⟨Kd.R_drew (R_store_nat HO.out _ _)⟩, ⟨Kd.R_drew (Kd.R_far (p := ⟨go, pl.toNat, none⟩) H8.out (fun k_ hk => by have := HGO.out; show k_ ≠ go; omega) _)⟩, ⟨blk_drew (blk_far BK7.out (by have h1 := HGO.out; have h2 := GE7.out; show gb7 ≠ go; omega) _)⟩, ⟨Kept.drew (Kept.setCell HK.out (.inl HGO.out.1) _)⟩, ⟨below_drew1 (below_set HB.out HGO.out.2.2)⟩⟩
          have h := HA.out
          rw [HV.out, ls_lay, if_pos hc] at h
          rw [show (a3_0 + (z + 1)).toNat = (a3_0 + z).toNat + 1 from by omega, show (z + 1).toNat = z.toNat + 1 from by omega, ← HPL.out]
          exact h
      · have hcd : decide (v ≥ 0) = false := decide_eq_false hc
        have hcd2 : decide (0 ≤ v) = false := decide_eq_false hc
        go_wp2
        go_roundg q1
        case measure => omega
        case rel =>
          refine ⟨z + 1, T, by go_num, by omega, by have := HZ.out; omega, ⟨by have := HZ.out; omega⟩, HTL, ⟨?_⟩, HO, H8, BK7, HK, HB⟩
          have h := HA.out
          rw [HV.out, ls_lay, if_neg (Int.not_le.2 hc)] at h
          rw [show (a3_0 + (z + 1)).toNat = (a3_0 + z).toNat + 1 from by omega, show (z + 1).toNat = z.toNat + 1 from by omega]
          exact h
end Go.Proofs.Ytonbplflmdpikaa.X
