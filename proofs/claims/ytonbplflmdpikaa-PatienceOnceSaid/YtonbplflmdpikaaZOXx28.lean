import Derived.Test.YtonbplflmdpikaaZOXx0
import Derived.Test.YtonbplflmdpikaaZOXx20
import Derived.Test.YtonbplflmdpikaaZOXx27
import Derived.Deep.RegionWith
namespace Go.Proofs.Ytonbplflmdpikaa.X
open Go.RowKit Go.Proofs.YtonbplflmdpikaaW.PrintWords Go.Proofs.YtonbplflmdpikaaW.PrintLast Go.Proofs.YtonbplflmdpikaaW.PrintMore
attribute [local go_sem] max2_int min2_int max_two min_two max_three min_three max_four min_four   -- for this text's walks alone
open Go.Proofs.YtonbplflmdpikaaW.HandWords
set_option linter.unusedVariables false
set_option linter.unusedSimpArgs false
def pe_lay (c : Int) : Nat → List Int → List Int → List Int
  | _, [], T => T
  | p, v :: vs, T => pe_lay c (p + 1) vs (if v ≥ 0 then T.set p (wrap64 (c + v)) else T)
def patience_least.f (k : Nat) (U l1 l2 : List Int) (a b c d : Int) : Option (List Int) :=
  if (0 ≤ a ∧ a ≤ b ∧ b ≤ (l1.length : Int) ∧ 0 ≤ c ∧ c ≤ d ∧ d ≤ (l2.length : Int)) ∧ b ≤ (U.length : Int) ∧ b ≤ 1000000 ∧ d ≤ 1000000 then
    (minimal_Diff.f k ((l1.take b.toNat).drop a.toNat) ((l2.take d.toNat).drop c.toNat)).bind fun l => (edits_Keep.f k l.1 (b - a) (d - c)).bind fun kk => if kk.1.length ≤ b.toNat - a.toNat then some (pe_lay c a.toNat kk.1 U) else none
  else none
set_option maxHeartbeats 2000000 in
set_option maxRecDepth 100000 in
theorem patience_least.calls (k kb cap base m : Nat) (ok : Nat → Prop) (U : List Int) (hU : U.length = m) (A1 : Option Addr) (c1 : Nat) (l1 : List Int) (A2 : Option Addr) (c2 : Nat) (l2 : List Int) (a b c d : Int) (r : List Int) (w0 w : World) (hB : Below w0.heap.size w0 w) (hkb : w0.heap.size ≤ kb) (ho0 : Kd.R (Kd.int .i64) 3 w base ok (.slice (some ⟨kb, 0, none⟩) m cap) U)
    (hr1 : ∀ W_, Kept w W_ (fun k_ => k_ = kb) → Kd.C (Kd.int .i64) W_ A1 l1.length l1) (hc1 : l1.length ≤ c1) (hr2 : ∀ W_, Kept w W_ (fun k_ => k_ = kb) → Kd.C (Kd.int .i64) W_ A2 l2.length l2) (hc2 : l2.length ≤ c2) (h : patience_least.f k U l1 l2 a b c d = some r) :
    Calls Try.prog 26 #[.slice (some ⟨kb, 0, none⟩) m cap, .slice A1 l1.length c1, .slice A2 l2.length c2, .int .i64 a, .int .i64 b, .int .i64 c, .int .i64 d] w fun e w' => e = .returned (.tuple #[]) ∧ Kd.R (Kd.int .i64) 3 w' base ok (.slice (some ⟨kb, 0, none⟩) m cap) r ∧ r.length = m ∧ Below w0.heap.size w0 w' ∧ Kept w w' (fun k_ => k_ = kb) := by
  unfold patience_least.f at h
  by_cases hg : (0 ≤ a ∧ a ≤ b ∧ b ≤ (l1.length : Int) ∧ 0 ≤ c ∧ c ≤ d ∧ d ≤ (l2.length : Int)) ∧ b ≤ (U.length : Int) ∧ b ≤ 1000000 ∧ d ≤ 1000000
  case neg => rw [if_neg hg] at h; cases h
  rw [if_pos hg] at h
  obtain ⟨⟨g1, g2, g3, g4, g5, g6⟩, g7, g8, g9⟩ := hg
  obtain ⟨⟨lm, em⟩, hmd, h⟩ := Option.bind_eq_some_iff.mp h
  obtain ⟨⟨kk, ek⟩, hkp, h⟩ := Option.bind_eq_some_iff.mp h
  dsimp only at h hkp
  by_cases htl : kk.length ≤ b.toNat - a.toNat
  case neg => rw [if_neg htl] at h; cases h
  rw [if_pos htl] at h
  have HA := Aside0.mk (Option.some.inj h)
  obtain ⟨qb, hqb⟩ : ∃ qb, b - a = qb := ⟨_, rfl⟩
  obtain ⟨qd, hqd⟩ : ∃ qd, d - c = qd := ⟨_, rfl⟩
  rw [hqb, hqd] at hkp
  have HMD := Aside0.mk hmd
  have HKP := Aside0.mk hkp
  have HTL0 := Aside0.mk htl
  clear h hmd hkp htl
  subst hU
  have HO := Aside0.mk ho0
  clear ho0
  have HR1 := Aside0.mk hr1
  have HC1 := Aside0.mk hc1
  clear hr1 hc1
  have HR2 := Aside0.mk hr2
  have HC2 := Aside0.mk hc2
  clear hr2 hc2
  have HK := Aside0.mk (Kept.refl w (fun k_ => k_ = kb))
  have HB := Aside0.mk hB
  have HKB := Aside0.mk hkb
  clear hB hkb
  obtain ⟨i1, hi1, hs1⟩ : ∃ i, Try.prog.info? 3 = some i ∧ i.size = 1 := ⟨_, rfl, rfl⟩
  obtain ⟨B1, hcut1, hA1, hC1⟩ := print_mid_of (P := Try.prog) (Value.int .i64) 0 22 3 .i64 .i64 Try.underlying22 hi1 hs1 A1 c1 l1 a b g1 g2 g3 HC1.out
  obtain ⟨B2, hcut2, hA2, hC2⟩ := print_mid_of (P := Try.prog) (Value.int .i64) 0 22 3 .i64 .i64 Try.underlying22 hi1 hs1 A2 c2 l2 c d g4 g5 g6 HC2.out
  have HD1 := Aside0.mk hC1
  have HD2 := Aside0.mk hC2
  have HE1 := Aside0.mk hA1
  have HE2 := Aside0.mk hA2
  clear hC1 hC2 hA1 hA2
  obtain ⟨X, hX⟩ : ∃ X, (l1.take b.toNat).drop a.toNat = X := ⟨_, rfl⟩
  obtain ⟨Y, hY⟩ : ∃ Y, (l2.take d.toNat).drop c.toNat = Y := ⟨_, rfl⟩
  rw [hX] at HMD HD1 HE1 hcut1
  rw [hY] at HMD HD2 HE2 hcut2
  have HX := Aside0.mk hX
  have HY := Aside0.mk hY
  clear hX hY
  have hqw : wrap64 (b - a) = qb := by rw [← hqb]; unfold wrap64; omega
  have hqw2 : wrap64 (d - c) = qd := by rw [← hqd]; unfold wrap64; omega
  have HQW := Aside0.mk hqw
  have HQW2 := Aside0.mk hqw2
  clear hqb hqd hqw hqw2
  have HR1' : Aside0 (Kd.C (Kd.int .i64) w.drew B1 X.length X) := ⟨Kd.C_of_reads (h1 := fun _ => rfl) (by have h := HE1.out _ (Kd.reads_of_C (HR1.out w.drew HK.out.drew)); exact h)⟩
  have HR2' : Aside0 (Kd.C (Kd.int .i64) w.drew B2 Y.length Y) := ⟨Kd.C_of_reads (h1 := fun _ => rfl) (by have h := HE2.out _ (Kd.reads_of_C (HR2.out w.drew HK.out.drew)); exact h)⟩
  go_enter Try.func26, Try.ntmps26
  go_upto_region 0 with (fail)
  (try simp only [Act.put, List.setIfInBounds_toArray, List.set_cons_zero, List.set_cons_succ])
  go_cut [14] (fun v14 wc => Aside0 (Kd.R k48 48 wc w.heap.size (fun _ => True) v14 lm) ∧ Aside0 (Kd.R (Kd.int .i64) 3 wc base ok (.slice (some ⟨kb, 0, none⟩) U.length cap) U) ∧ Aside0 (Kept w wc (fun k_ => k_ = kb)) ∧ Aside0 (Below w0.heap.size w0 wc))
  case first =>
    go_region_with (go_at_call 38; (with_reducible refine (minimal_Diff.calls k B1 _ X B2 _ Y lm em _ HR1'.out HD1.out HR2'.out HD2.out HMD.out).mono ?_); rintro e w8 ⟨v8, rfl, hk8, hb8⟩; have n0_ := Aside0.mk (Kd.R_below (Kd.R_drew HO.out) hb8); have n1_ := Aside0.mk (Kept.below (S := (fun k_ => k_ = kb)) (HK.out.drew) hb8); have n2_ := Aside0.mk ((below_drew1 HB.out).trans (hb8.mono (below_drew1 HB.out).size)); have H14 := Aside0.mk (Kd.R_lower hk8 (base' := w.heap.size) HK.out.1); clear HO HK HB hk8 hb8; have HO := n0_; have HK := n1_; have HB := n2_; clear n0_ n1_ n2_)
    all_goals (go_wp2; go_meet)
    all_goals (case rel => exact ⟨H14, HO, HK, HB⟩)
  case rest =>
  clear HO HK HB
  obtain ⟨H14, HO, HK, HB⟩ := hcut
  obtain ⟨A13, c13, e13, hc13, hr13⟩ := Kd.R_reads H14.out
  subst e13
  have HC13 := Aside0.mk hc13
  have HR13 := Aside0.mk hr13
  clear hc13 hr13 HE1 HE2 HD1 HD2 HR1' HR2' hcut1 hcut2
  have hqw := HQW.out
  have hqw2 := HQW2.out
  have hqx := (i64_w _).trans hqw
  have hqx2 := (i64_w _).trans hqw2
  go_wp2_with (first | (go_at_call 32; (with_reducible refine (edits_Keep.calls k A13 _ lm qb qd kk ek _ HR13.out HC13.out HKP.out).mono ?_); rintro e w14 ⟨v14, rfl, hk14, hb14⟩; obtain ⟨Ao, co, eo⟩ := Kd.R_slice hk14; subst eo; have n0_ := Aside0.mk (Kd.R_below HO.out hb14); have n1_ := Aside0.mk (Kept.below (S := (fun k => k = kb)) HK.out hb14); have n2_ : Aside0 (Below w0.heap.size w0 w14) := ⟨HB.out.trans (hb14.mono HB.out.size)⟩; have HK13 := HK; have HT13 := HO; have H14r := Aside0.mk hk14; clear HO HK HB hb14 hk14 HR13 H14 HC13; have HO := n0_; have HK := n1_; have HB := n2_; clear n0_ n1_ n2_))
  clear hqw hqw2 hqx hqx2
  have hlk : Kd.R (Kd.int .i64) 3 _ _ (fun k_ => k_ ≠ kb) (.slice Ao kk.length co) kk := Kd.R_of_own (Kd.own_of_R H14r.out) (fun k_ hk => by
    have h1 := Kd.R_base H14r.out k_ hk
    obtain ⟨cells, hc⟩ := own_typed (Kd.own_of_R HT13.out) kb (by simp [Value.ownBlock])
    have h3 := blk_lt hc
    intro e
    subst e
    omega)
  have H14 := Aside0.mk (Kd.R_lower hlk (base' := w.heap.size) HK13.out.1)
  clear hlk HK13 HT13 H14r
  have HA0 : Aside0 (pe_lay c (a + 0).toNat (kk.drop (0 : Int).toNat) U = r) := ⟨by rw [show (a + 0).toNat = a.toNat from by omega]; exact HA.out⟩
  have HKL2 : Aside0 (a + (kk.length : Int) ≤ b) := ⟨by have := HTL0.out; omega⟩
  clear HA HTL0
  go_loopg [45] kk.length (fun q v45 w' => ∃ (z : Int) (T : List Int), v45 = .int .i64 z ∧ 0 ≤ z ∧ z ≤ 1000000 ∧ Aside0 (z + (q : Int) = (kk.length : Int)) ∧ Aside0 (T.length = U.length) ∧ Aside0 (pe_lay c (a + z).toNat (kk.drop z.toNat) T = r) ∧ Aside0 (Kd.R (Kd.int .i64) 3 w' base ok (.slice (some ⟨kb, 0, none⟩) U.length cap) T) ∧ Aside0 (Kd.R (Kd.int .i64) 3 w' w.heap.size (fun k_ => k_ ≠ kb) (.slice Ao kk.length co) kk) ∧ Aside0 (Kept w w' (fun k_ => k_ = kb)) ∧ Aside0 (Below w0.heap.size w0 w'))
  case atStart => exact ⟨0, U, rfl, by omega, by omega, ⟨by omega⟩, ⟨rfl⟩, HA0, HO, H14, HK, HB⟩
  case round =>
    clear HA0 HO H14 HK HB
    obtain ⟨z, T, rfl, hz0, hz1, HZ, HTL, HA, HO, H14, HK, HB⟩ := hrel
    cases gk with
    | zero =>
      have hzd : decide (z < (kk.length : Int)) = false := decide_eq_false (by have := HZ.out; omega)
      have hr : T = r := by
        have h := HA.out
        rw [List.drop_eq_nil_of_le (by have := HZ.out; omega)] at h
        exact h
      subst hr
      go_wp2
      go_end0
      exact ⟨rfl, HO.out, HTL.out, HB.out, HK.out⟩
    | succ q1 =>
      have hzl : z < (kk.length : Int) := by have := HZ.out; omega
      have hzd : decide (z < (kk.length : Int)) = true := decide_eq_true hzl
      obtain ⟨g8, c8, e8, hg8, _⟩ := Kd.R_form H14.out (by omega)
      injection e8 with e81 e82 e83
      subst e81 e83
      have p1 := eq_true hz0
      have p2 := eq_true hzl
      obtain ⟨f1, f2⟩ := Kd.R_cell (0 : Int) H14.out z hz0 hzl
      obtain ⟨v, hv⟩ : ∃ v, rdOf 0 kk z = v := ⟨_, rfl⟩
      rw [hv] at f1
      have HV : Aside0 (kk.drop z.toNat = v :: kk.drop (z.toNat + 1)) := ⟨by
        have hlt : z.toNat < kk.length := by omega
        rw [List.drop_eq_getElem_cons hlt, ← hv]
        simp [rdOf, List.getD_eq_getElem?_getD, hlt]⟩
      clear hv f2 e82 hg8
      by_cases hc : v ≥ 0
      · have hcd : decide (v ≥ 0) = true := decide_eq_true hc
        have hcd2 : decide (0 ≤ v) = true := decide_eq_true hc
        obtain ⟨pl, hple⟩ : ∃ pl, a + z = pl := ⟨_, rfl⟩
        have hpl : pl.toNat < T.length := by have := HTL.out; have := HZ.out; have := HKL2.out; omega
        obtain ⟨f3, f4⟩ := R_cell_nat (by have h := HO.out; have e := HTL.out; rw [← e] at h; exact h) pl.toNat hpl
        have hp0 : 0 ≤ pl := by omega
        have hp1 : pl < (U.length : Int) := by have := HTL.out; omega
        have p3 := eq_true hp0
        have p4 := eq_true hp1
        have HPL := Aside0.mk hple
        have hpw : wrap64 (a + z) = pl := by rw [← hple]; unfold wrap64; omega
        have hpw2 := (i64_w _).trans hpw
        clear hple hpl
        go_wp2
        clear hpw hpw2
        go_roundg q1
        case measure => omega
        case rel =>
          refine ⟨z + 1, T.set pl.toNat (wrap64 (c + v)), by go_num, by omega, by have := HZ.out; have := HKL2.out; omega, ⟨by have := HZ.out; omega⟩, ⟨by rw [List.length_set]; exact HTL.out⟩, ⟨?_⟩, ⟨R_store_nat HO.out _ _⟩, ⟨Kd.R_far (p := ⟨kb, pl.toNat, none⟩) H14.out (fun k_ hk => hk) _⟩, ⟨Kept.setCell HK.out (.inl rfl) _⟩, ⟨below_set HB.out HKB.out⟩⟩
          have h := HA.out
          rw [HV.out, pe_lay, if_pos hc] at h
          rw [show (a + (z + 1)).toNat = (a + z).toNat + 1 from by omega, show (z + 1).toNat = z.toNat + 1 from by omega, ← HPL.out]
          exact h
      · have hcd : decide (v ≥ 0) = false := decide_eq_false hc
        have hcd2 : decide (0 ≤ v) = false := decide_eq_false hc
        go_wp2
        go_roundg q1
        case measure => omega
        case rel =>
          refine ⟨z + 1, T, by go_num, by omega, by have := HZ.out; have := HKL2.out; omega, ⟨by have := HZ.out; omega⟩, HTL, ⟨?_⟩, HO, H14, HK, HB⟩
          have h := HA.out
          rw [HV.out, pe_lay, if_neg (Int.not_le.2 hc)] at h
          rw [show (a + (z + 1)).toNat = (a + z).toNat + 1 from by omega, show (z + 1).toNat = z.toNat + 1 from by omega]
          exact h
end Go.Proofs.Ytonbplflmdpikaa.X
