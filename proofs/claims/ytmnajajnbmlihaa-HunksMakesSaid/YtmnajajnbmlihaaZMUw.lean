/- HunksMakes: the walk of the law's function, where both sides tell the same. -/
import Derived.Test.YtmnajajnbmlihaaZMXx0
import Derived.Test.YtmnajajnbmlihaaZMXx12
import Derived.Test.YtmnajajnbmlihaaZMXx18
import Derived.Test.YtmnajajnbmlihaaZMXx20
import Derived.Test.YtmnajajnbmlihaaZMXx21
import Derived.Test.YtmnajajnbmlihaaZMXx22
import Derived.Test.YtmnajajnbmlihaaZMXx6
import Derived.Test.YtmnajajnbmlihaaZMXx9
import Derived.Deep.OwnRows
namespace Go.Proofs.Ytmnajajnbmlihaa.X
open Go.RowKit Go.Proofs.YtmnajajnbmlihaaW.PrintWords Go.Proofs.YtmnajajnbmlihaaW.PrintLast Go.Proofs.YtmnajajnbmlihaaW.PrintMore
attribute [local go_sem] max2_int min2_int max_two min_two max_three min_three max_four min_four
open Go.Proofs.YtmnajajnbmlihaaW.HandWords
set_option linter.unusedVariables false
set_option linter.unusedSimpArgs false
/-- one change of a group is spoilt: the other groups stay -/
theorem spoil_step {W : World} {base n cap : Nat} {ok : Nat → Prop} {ad : Addr} {G : List (List S35)} (h : Kd.S (Kd.slice 35 k35) 22 W base ok (.slice (some ad) n cap) G) (z q : Int) (hz0 : 0 ≤ z) (hz1 : z < n) (hq0 : 0 ≤ q) (hq1 : q < ((G.getD z.toNat []).length : Int)) :
    ∃ (gb c : Nat) (f : Int) (y : List S35), W.cell? (ad.add z.toNat) = some (.slice (some ⟨gb, 0, none⟩) (G.getD z.toNat []).length c) ∧ ok gb ∧ W.cell? ⟨gb, q.toNat * 4, none⟩ = some (.int .i64 f) ∧ W.frozen? ⟨gb, q.toNat * 4, none⟩ = false ∧ y.length = (G.getD z.toNat []).length ∧
      Kd.S (Kd.slice 35 k35) 22 (W.setCell ⟨gb, q.toNat * 4, none⟩ (.int .i64 (-3))) base ok (.slice (some ad) n cap) (G.set z.toNat y) ∧ W.grownBy (W.setCell ⟨gb, q.toNat * 4, none⟩ (.int .i64 (-3))) (some gb) := by
  obtain ⟨oki, c, hcl, hM, hcc, hoki, hback⟩ := Kd.S_borrow h ([] : List S35) z hz0 hz1
  obtain ⟨v, rfl, hR⟩ := hM
  obtain ⟨gb, cb, rfl, hlc⟩ := R_form hR (by omega)
  obtain ⟨ce, hcel, hMe, hcce, hfre⟩ := Kd.R_elem hR z35 q hq0 hq1
  obtain rfl := k35_openM hMe
  have hs := Kd.R_seg hR q hq0 hq1 (seg := [.int .i64 (-3)]) (j := 0) hcel hcce (show 1 ≤ 4 from by decide) (x' := (⟨-3, ((G.getD z.toNat []).getD q.toNat z35).f1, ((G.getD z.toNat []).getD q.toNat z35).f2, ((G.getD z.toNat []).getD q.toNat z35).f3⟩ : S35)) (okp := fun _ => False) (k35_mkM _ _ _ (⟨-3, ((G.getD z.toNat []).getD q.toNat z35).f1, ((G.getD z.toNat []).getD q.toNat z35).f2, ((G.getD z.toNat []).getD q.toNat z35).f3⟩ : S35)) (fun _ hk => hk.elim)
  have e : W.setCells gb (q.toNat * 4 + 0) [.int .i64 (-3)] = W.setCell ⟨gb, q.toNat * 4, none⟩ (.int .i64 (-3)) := rfl
  have hgb : oki gb := hR.1 gb (by simp [Value.ownBlock])
  have hs2 : _ ∧ _ := hs
  rw [show (k35).sz = 4 from rfl, e] at hs2
  refine ⟨gb, cb, _, _, ?_, (hoki gb hgb).1, hcce 0 _ rfl, hfre 0, ?_, hback (row := some gb) hs2.2 (fun k hk => by injection hk with hk; rw [← hk]; exact hgb) ⟨_, rfl, hs2.1⟩, hs2.2⟩
  · have := hcc 0 _ rfl
    simpa [Kd.slice] using this
  · rw [List.length_set]
set_option maxHeartbeats 4000000 in
set_option maxRecDepth 100000 in
theorem redlinelaw11_HunksMakes.walk (k : Nat) (A0 : Option Addr) (c0 : Nat) (l0 : List S35) (A1 : Option Addr) (c1 : Nat) (l1 : List ByteArray) (A2 : Option Addr) (c2 : Nat) (l2 : List ByteArray) (a3 : Int) (x : List S39) (e : Int) (g : List (List S35)) (hh : Int) (w : World)
    (hr0 : Kd.C k35 w A0 l0.length l0) (hc0 : l0.length ≤ c0) (hr1 : Kd.C Kd.string w A1 l1.length l1) (hc1 : l1.length ≤ c1) (hr2 : Kd.C Kd.string w A2 l2.length l2) (hc2 : l2.length ≤ c2)
    (hz0 : l0.length * 32 ≤ 140737488351232) (hz1 : l1.length * 16 ≤ 140737488351232) (hz2 : l2.length * 16 ≤ 140737488351232)
    (hM1 : hunks_Make.f k l0 l1 l2 a3 = some (x, e)) (hM2 : redlineref11_Make.f k l0 l1 l2 a3 = some (x, e)) (hG1 : hunks_Group.f k l0 (l1.length : Int) (l2.length : Int) a3 = some (g, hh)) (hG2 : redlineref11_Group.f k l0 (l1.length : Int) (l2.length : Int) a3 = some (g, hh))
    (hS1 : redlineref11_SameHunks.f k x x = some true) (hS2 : redlineref05_Same.f k l0 l0 = some true) (hS3 : ∀ l ∈ g, redlineref05_Same.f k l l = some true) (hS4 : redlineref01_SameStrings.f k l1 l1 = some true) (hS5 : redlineref01_SameStrings.f k l2 l2 = some true) :
    Calls Try.prog 3 #[.slice A0 l0.length c0, .slice A1 l1.length c1, .slice A2 l2.length c2, .int .i64 a3] w fun e w' => e = .returned (.bool true) ∧ Below w.heap.size w w' := by
  have HR0 := Aside0.mk hr0
  have HR1 := Aside0.mk hr1
  have HR2 := Aside0.mk hr2
  have HC0 := Aside0.mk hc0
  have HC1 := Aside0.mk hc1
  have HC2 := Aside0.mk hc2
  have HZ0 := Aside0.mk hz0
  have HZ1 := Aside0.mk hz1
  have HZ2 := Aside0.mk hz2
  have HM1 := Aside0.mk hM1
  have HM2 := Aside0.mk hM2
  have HG1 := Aside0.mk hG1
  have HG2 := Aside0.mk hG2
  have HS1 := Aside0.mk hS1
  have HS2 := Aside0.mk hS2
  have HS3 := Aside0.mk hS3
  have HS4 := Aside0.mk hS4
  have HS5 := Aside0.mk hS5
  have HB := Aside0.mk (Below.refl w.heap.size w)
  clear hr0 hr1 hr2 hc0 hc1 hc2 hz0 hz1 hz2 hM1 hM2 hG1 hG2 hS1 hS2 hS3 hS4 hS5
  go_enter Try.func3, Try.ntmps3
  go_upto_region 2 with (first | ((with_reducible refine gate_dst (N := 22) rfl ?_); (try (refine gate_guard (by rfl) ?_; dsimp only)); refine Kd.R_lit k35 _ 35 ?hg (N := 22) ?hd (xs := ([] : List S35)) (inner := []) (ok := fun _ => True) (okp := fun _ => True) ?hr ?hp (fun _ hk => hk) trivial (Below.refl _ _) (Nat.le_refl _) (by simp) ?_; (case hd => rfl); (case hg => rfl); (case hr => first | (go_simp; done) | (go_simp; rfl)); (case hp => exact (Reps.none _ _)); intro v1 w1 ho1 hb hg_ hnew_; clear hg_ hnew_; have HO1 := Aside0.mk ho1; have n1_ := Aside0.mk hb; clear HB hb ho1; have HB := n1_; clear n1_) | ((with_reducible refine gate_builtin (b := .append) (xs := #[.tmp 22, .tmp 23]) rfl ?_); (try (refine gate_guard (by rfl) ?_; dsimp only)); at_builtin; refine @Kd.R_append_rows Try.prog _ _ _ _ _ _ k35 (k35.K w1) w w1 w.heap.size rfl (.tmp 22) (.tmp 23) 22 35 (.agg #[(.int .i64 0), (.int .i64 0), (.int .i64 0), (.int .i64 0)]) 32 rfl Try.underlying22 info35 rfl (by decide) (by omega) v1 ([] : List S35) l0 A0 l0.length c0 (fun _ => True) (fun _ => False) rfl rfl ?aO ?aR ?aK (fun _ h => h.elim) ?aF ?aB ?aS ?aL ?_; (case aR => exact Kd.C_below HR0.out HB.out); (case aK => intro x cs hk; obtain rfl := k35_open hk; exact k35_mkM _ _ _ x); (case aB => exact HB.out); (case aF => exact (fun _ _ => trivial)); (case aO => exact HO1.out); (case aS => exact HB.out.size); (case aL => have := HZ0.out; simp only [List.length_nil]; omega); intro v2 w2 ho hb hg hat; rw [List.nil_append] at ho; have HO2 := Aside0.mk ho; have n1_ := Aside0.mk hb; clear HB ho hb hg hat HO1; have HB := n1_; clear n1_))
  go_upto_region 3 with (first | ((with_reducible refine gate_dst (N := 25) rfl ?_); (try (refine gate_guard (by rfl) ?_; dsimp only)); refine Kd.R_lit Kd.string _ 9 ?hg (N := 25) ?hd (xs := ([] : List ByteArray)) (inner := []) (ok := fun _ => True) (okp := fun _ => True) ?hr ?hp (fun _ hk => hk) trivial (Below.refl _ _) (Nat.le_refl _) (by simp) ?_; (case hd => rfl); (case hg => rfl); (case hr => first | (go_simp; done) | (go_simp; rfl)); (case hp => exact (Reps.none _ _)); intro v3 w3 ho1 hb hg_ hnew_; clear hg_ hnew_; have HO3 := Aside0.mk (Kd.R_lower ho1 HB.out.size); have n2_ := Aside0.mk (Kd.R_below HO2.out hb);  have n1_ := Aside0.mk (below_step HB.out hb); clear HB HO2 hb ho1; have HB := n1_; have HO2 := n2_; clear n1_ n2_) | ((with_reducible refine gate_builtin (b := .append) (xs := #[.tmp 25, .tmp 26]) rfl ?_); (try (refine gate_guard (by rfl) ?_; dsimp only)); at_builtin; refine @Kd.R_append_rows Try.prog _ _ _ _ _ _ Kd.string (Kd.string.K w3) w w3 w.heap.size rfl (.tmp 25) (.tmp 26) 23 9 (.string ⟨#[]⟩) 16 rfl Try.underlying23 info9 rfl (by decide) (by omega) v3 ([] : List ByteArray) l1 A1 l1.length c1 (fun _ => True) (fun _ => False) rfl rfl ?aO ?aR (fun _ _ h => h) (fun _ h => h.elim) ?aF ?aB ?aS ?aL ?_; (case aR => exact Kd.C_below HR1.out HB.out); (case aB => exact HB.out); (case aF => exact (fun _ _ => trivial)); (case aO => exact HO3.out); (case aS => exact HB.out.size); (case aL => have := HZ1.out; simp only [List.length_nil]; omega); intro v4 w4 ho hb hg hat; rw [List.nil_append] at ho; have HO4 := Aside0.mk ho; have n2_ := Aside0.mk (Kd.R_over' HO2.out (Kd.R_typed HO3.out) (by decide) hg);  have n1_ := Aside0.mk hb; clear HB HO2 ho hb hg hat HO3; have HB := n1_; have HO2 := n2_; clear n1_ n2_) | ((with_reducible refine gate_dst (N := 28) rfl ?_); (try (refine gate_guard (by rfl) ?_; dsimp only)); refine Kd.R_lit Kd.string _ 9 ?hg (N := 28) ?hd (xs := ([] : List ByteArray)) (inner := []) (ok := fun _ => True) (okp := fun _ => True) ?hr ?hp (fun _ hk => hk) trivial (Below.refl _ _) (Nat.le_refl _) (by simp) ?_; (case hd => rfl); (case hg => rfl); (case hr => first | (go_simp; done) | (go_simp; rfl)); (case hp => exact (Reps.none _ _)); intro v5 w5 ho1 hb hg_ hnew_; clear hg_ hnew_; have HO5 := Aside0.mk (Kd.R_lower ho1 HB.out.size); have n2_ := Aside0.mk (Kd.R_below HO2.out hb); have n4_ := Aside0.mk (Kd.R_elder' HO4.out (Kd.R_base ho1) hb); clear HO4; have HO4 := n4_; clear n4_; have n1_ := Aside0.mk (below_step HB.out hb); clear HB HO2 hb ho1; have HB := n1_; have HO2 := n2_; clear n1_ n2_) | ((with_reducible refine gate_builtin (b := .append) (xs := #[.tmp 28, .tmp 29]) rfl ?_); (try (refine gate_guard (by rfl) ?_; dsimp only)); at_builtin; refine @Kd.R_append_rows Try.prog _ _ _ _ _ _ Kd.string (Kd.string.K w5) w w5 w.heap.size rfl (.tmp 28) (.tmp 29) 23 9 (.string ⟨#[]⟩) 16 rfl Try.underlying23 info9 rfl (by decide) (by omega) v5 ([] : List ByteArray) l2 A2 l2.length c2 (fun _ => True) (fun _ => False) rfl rfl ?aO ?aR (fun _ _ h => h) (fun _ h => h.elim) ?aF ?aB ?aS ?aL ?_; (case aR => exact Kd.C_below HR2.out HB.out); (case aB => exact HB.out); (case aF => exact (fun _ _ => trivial)); (case aO => exact HO5.out); (case aS => exact HB.out.size); (case aL => have := HZ2.out; simp only [List.length_nil]; omega); intro v6 w6 ho hb hg hat; rw [List.nil_append] at ho; have HO6 := Aside0.mk ho; have n2_ := Aside0.mk (Kd.R_over' HO2.out (Kd.R_typed HO5.out) (by decide) hg); have n4_ := Aside0.mk (Kd.R_grown HO4.out hg (fun _ hk => hk.2)); clear HO4; have HO4 := n4_; clear n4_; have n1_ := Aside0.mk hb; clear HB HO2 ho hb hg hat HO5; have HB := n1_; have HO2 := n2_; clear n1_ n2_))
  obtain ⟨Ao, co, eo, hco, hro⟩ := Kd.R_reads HO2.out
  obtain ⟨Ac, cc, ec, hcc, hrc⟩ := Kd.R_reads HO4.out
  obtain ⟨Ad, cd, ed, hcd, hrd⟩ := Kd.R_reads HO6.out
  subst eo ec ed
  have HCO := Aside0.mk hco
  have HCC := Aside0.mk hcc
  have HCD := Aside0.mk hcd
  have HRO := Aside0.mk hro
  have HRC := Aside0.mk hrc
  have HRD := Aside0.mk hrd
  clear hco hcc hcd hro hrc hrd HO2 HO4 HO6
  go_upto_region 4 with (go_at_call 6; refine (hunks_Make.calls k Ao co l0 Ac cc l1 Ad cd l2 a3 x e w6 HRO.out HCO.out HRC.out HCC.out HRD.out HCD.out HM1.out).mono ?_; rintro e' w7 ⟨v7, rfl, hs7, hb7⟩; have n1_ := Aside0.mk (below_step HB.out hb7); have HX7 := Aside0.mk hs7; have B6 := Aside0.mk hb7; clear HB hs7 hb7; have HB := n1_; clear n1_)
  go_upto_region 5 with (go_at_call 7; refine (redlineref11_Make.calls k A0 c0 l0 A1 c1 l1 A2 c2 l2 a3 x e w7 (Kd.C_below HR0.out HB.out) HC0.out (Kd.C_below HR1.out HB.out) HC1.out (Kd.C_below HR2.out HB.out) HC2.out HM2.out).mono ?_; rintro e' w8 ⟨v8, rfl, hs8, hb8⟩; have n1_ := Aside0.mk (below_step HB.out hb8); have n2_ := Aside0.mk (below_step B6.out hb8); have HX8 := Aside0.mk hs8; have B7 := Aside0.mk hb8; have HS0 := Aside0.mk (show w.heap.size ≤ w8.heap.size ∧ w6.heap.size ≤ w8.heap.size from ⟨n1_.out.size, n2_.out.size⟩); clear HB B6 hs8 hb8; have HB := n1_; have B6 := n2_; clear n1_ n2_)
  go_upto_region 6 with (go_at_call 8; refine (hunks_Group.calls k Ao co l0 (l1.length : Int) (l2.length : Int) a3 g hh w8 (Kd.C_below HRO.out B6.out) HCO.out HG1.out).mono ?_; rintro e' w9 ⟨v9, rfl, hs9, hb9⟩; have n1_ := Aside0.mk (below_step HB.out hb9); have n2_ := Aside0.mk (below_step B6.out hb9); have n3_ := Aside0.mk (below_step B7.out hb9); have HX9 := Aside0.mk hs9; have B8 := Aside0.mk hb9; clear HB B6 B7 hs9 hb9; have HB := n1_; have B6 := n2_; have B7 := n3_; clear n1_ n2_ n3_)
  go_upto_region 7 with (go_at_call 9; refine (redlineref11_Group.calls k A0 c0 l0 (l1.length : Int) (l2.length : Int) a3 g hh w9 (Kd.C_below HR0.out HB.out) HC0.out HG2.out).mono ?_; rintro e' w10 ⟨v10, rfl, hs10, hb10⟩; have n1_ := Aside0.mk (below_step HB.out hb10); have n2_ := Aside0.mk (below_step B6.out hb10); have n3_ := Aside0.mk (below_step B7.out hb10); have n4_ := Aside0.mk (below_step B8.out hb10); have HSZ := Aside0.mk (show w.heap.size ≤ w8.heap.size ∧ w6.heap.size ≤ w8.heap.size from HS0.out); have n5_ := Aside0.mk (Kd.S_old HX9.out hb10); have HX10 := Aside0.mk hs10; clear HB B6 B7 B8 HX9 hs10 hb10; have HB := n1_; have B6 := n2_; have B7 := n3_; have B8 := n4_; have HX9 := n5_; clear n1_ n2_ n3_ n4_ n5_)
  obtain ⟨A7, c7, e7, h7, r7⟩ := Kd.S_reads HX7.out
  obtain ⟨A8, c8, e8, h8, r8⟩ := Kd.S_reads HX8.out
  obtain ⟨A9, c9, e9, h9, r9⟩ := Kd.S_reads HX9.out
  obtain ⟨A10, c10, e10, h10, r10⟩ := Kd.S_reads HX10.out
  subst e7 e8 e9 e10
  have HR7 := Aside0.mk r7
  have HR8 := Aside0.mk r8
  have HH7 := Aside0.mk h7
  have HH8 := Aside0.mk h8
  have HGL := Aside0.mk r9.2.1
  clear r7 r8 r9 r10 h7 h8 h9 h10 HX7 HX8
  go_upto_region 9 with (first | (go_at_call 10; refine (redlineref11_SameHunks.calls k A7 c7 x A8 c8 x true _ (Kd.C_below HR7.out B7.out) HH7.out (Kd.C_below HR8.out B8.out) HH8.out HS1.out).mono ?_; rintro e' w11 ⟨rfl, hb⟩; have n1_ := Aside0.mk (below_step HB.out hb); have n2_ := Aside0.mk (below_step B6.out hb); have n3_ := Aside0.mk (Kd.S_below HX9.out hb); have n4_ := Aside0.mk (Kd.S_below HX10.out hb); have n5_ := Aside0.mk (below_step B7.out hb); have n6_ := Aside0.mk (below_step B8.out hb); clear HB B6 HX9 HX10 B7 B8 hb; have HB := n1_; have B6 := n2_; have HX9 := n3_; have HX10 := n4_; have B7 := n5_; have B8 := n6_; clear n1_ n2_ n3_ n4_ n5_ n6_) | (go_at_call 11; refine (redlineref05_Same.calls k Ao co l0 A0 c0 l0 true _ (Kd.C_below HRO.out B6.out) HCO.out (Kd.C_below HR0.out HB.out) HC0.out HS2.out).mono ?_; rintro e' w12 ⟨rfl, hd⟩; have hb := hd.below; clear hd; have n1_ := Aside0.mk (below_step HB.out hb); have n2_ := Aside0.mk (below_step B6.out hb); have n3_ := Aside0.mk (Kd.S_below HX9.out hb); have n4_ := Aside0.mk (Kd.S_below HX10.out hb); have n5_ := Aside0.mk (below_step B7.out hb); have n6_ := Aside0.mk (below_step B8.out hb); clear HB B6 HX9 HX10 B7 B8 hb; have HB := n1_; have B6 := n2_; have HX9 := n3_; have HX10 := n4_; have B7 := n5_; have B8 := n6_; clear n1_ n2_ n3_ n4_ n5_ n6_) | (go_at_call 12; (first | (with_reducible refine (redlineref01_SameStrings.calls k A1 c1 l1 Ac cc l1 true _ (Kd.C_below HR1.out HB.out) HC1.out (Kd.C_below HRC.out B6.out) HCC.out HS4.out).mono ?_) | (with_reducible refine (redlineref01_SameStrings.calls k A2 c2 l2 Ad cd l2 true _ (Kd.C_below HR2.out HB.out) HC2.out (Kd.C_below HRD.out B6.out) HCD.out HS5.out).mono ?_)); rintro e' w13 ⟨rfl, hd⟩; have hb := hd.below; clear hd; have n1_ := Aside0.mk (below_step HB.out hb); have n2_ := Aside0.mk (below_step B6.out hb); have n3_ := Aside0.mk (Kd.S_below HX9.out hb); have n4_ := Aside0.mk (Kd.S_below HX10.out hb); have n5_ := Aside0.mk (below_step B7.out hb); have n6_ := Aside0.mk (below_step B8.out hb); clear HB B6 HX9 HX10 B7 B8 hb; have HB := n1_; have B6 := n2_; have HX9 := n3_; have HX10 := n4_; have B7 := n5_; have B8 := n6_; clear n1_ n2_ n3_ n4_ n5_ n6_))
  have n3_ := Aside0.mk (Kd.S_mono (ok' := fun k => w8.heap.size ≤ k ∧ k < w9.heap.size) (Kd.S_bound HX9.out) (fun k hk => ⟨hk.2.1, hk.1.2⟩))
  have n4_ := Aside0.mk (Kd.S_mono (ok' := fun k => w9.heap.size ≤ k) (Kd.S_bound HX10.out) (fun k hk => hk.2.1))
  have HN := Aside0.mk (show w.heap.size ≤ w8.heap.size ∧ w6.heap.size ≤ w8.heap.size from ⟨HSZ.out.1, HSZ.out.2⟩)
  clear HX9 HX10 HR7 HR8 HH7 HH8 B7 B8
  have HX9 := n3_
  have HX10 := n4_
  clear n3_ n4_
  go_wp2
  go_loopg [20] g.length (fun q v20 w' => ∃ (z : Int) (G : List (List S35)), v20 = .int .i64 z ∧ 0 ≤ z ∧ z ≤ 9223372036854775807 ∧ Aside0 (z + (q : Int) = g.length) ∧ Aside0 (G.length = g.length ∧ ∀ j, z.toNat ≤ j → G.getD j [] = g.getD j []) ∧ Aside0 (Kd.S (Kd.slice 35 k35) 22 w' w8.heap.size (fun k => w8.heap.size ≤ k ∧ k < w9.heap.size) (.slice A9 g.length c9) G) ∧ Aside0 (Kd.S (Kd.slice 35 k35) 22 w' w9.heap.size (fun k => w9.heap.size ≤ k) (.slice A10 g.length c10) g) ∧ Aside0 (Below w6.heap.size w6 w') ∧ Aside0 (Below w.heap.size w w'))
  case atStart => exact ⟨0, g, rfl, by omega, by omega, ⟨by omega⟩, ⟨rfl, fun _ _ => rfl⟩, HX9, HX10, B6, HB⟩
  case round =>
    clear HX9 HX10 B6 HB
    obtain ⟨z, G, rfl, hz1, hz2, HZ, HGG, HX9, HX10, B6, HB⟩ := hrel
    cases gk with
    | zero =>
      have hzl : z = (g.length : Int) := by have := HZ.out; omega
      subst hzl
      have hp : ((g.length : Int) < (g.length : Int)) = False := eq_false (Int.lt_irrefl _)
      go_wp2_with (go_at_call 11; refine (redlineref05_Same.calls k Ao co l0 A0 c0 l0 true _ (Kd.C_below HRO.out B6.out) HCO.out (Kd.C_below HR0.out HB.out) HC0.out HS2.out).mono ?_; rintro e' w14 ⟨rfl, hd⟩; have n1_ := Aside0.mk (below_step HB.out hd.below); clear HB hd; have HB := n1_; clear n1_)
      go_ret
      exact ⟨rfl, HB.out⟩
    | succ q1 =>
      have hzl : decide (z < (g.length : Int)) = true := decide_eq_true (by have := HZ.out; omega)
      have hz3 := of_decide_eq_true hzl
      obtain ⟨ad9, D9, d9, e9, x9, hd9, hc9⟩ := at_L2 (Kd.S_reads' HX9.out).2.2 z hz1 (by have := HGG.out.1; omega)
      obtain ⟨ad10, D10, d10, e10, x10, hd10, hc10⟩ := at_L2 (Kd.S_reads' HX10.out).2.2 z hz1 hz3
      subst e9 e10
      have hGe : rd_L2 G z = rd_L2 g z := HGG.out.2 z.toNat (Nat.le_refl _)
      rw [hGe] at x9 hd9 hc9
      have hmem : rd_L2 g z ∈ g := by
        unfold rd_L2
        rw [List.getD_eq_getElem?_getD, List.getElem?_eq_getElem (show z.toNat < g.length by omega)]
        exact List.getElem_mem (show z.toNat < g.length by omega)
      have HSM := Aside0.mk (HS3.out _ hmem)
      obtain ⟨r, hr⟩ : ∃ r, rd_L2 g z = r := ⟨_, rfl⟩
      rw [hr] at x9 hd9 hc9 x10 hd10 hc10 HSM
      have HRR := Aside0.mk hr
      have HRL := Aside0.mk (show r.length ≤ 9223372036854775807 from hc9.2.1)
      have HD9 := Aside0.mk hd9
      have HD10 := Aside0.mk hd10
      have HC9 := Aside0.mk hc9
      have HC10 := Aside0.mk hc10
      have p1 := eq_true hz1
      have p2 := eq_true hz3
      have hw : wrap64 (z + 1) = z + 1 := by have := HGL.out; unfold wrap64; omega
      have HW := Aside0.mk hw
      clear hGe hmem hr hd9 hd10 hc9 hc10 hw
      go_wp2
      go_quiet (first | (go_at_call 11; refine Calls.quiet_of ((redlineref05_Same.calls k D9 d9 r D10 d10 r true _ (Kd.C_below HC9.out (pw_below_drewN (Below.refl _ _) _)) HD9.out (Kd.C_below HC10.out (pw_below_drewN (Below.refl _ _) _)) HD10.out HSM.out).mono (fun e' w' hh' => ⟨hh'.1, hh'.2.1⟩))))
      have n1_ := Aside0.mk (Kd.S_drewN HX9.out nq)
      have n2_ := Aside0.mk (Kd.S_drewN HX10.out nq)
      have n3_ := Aside0.mk (pw_below_drewN B6.out nq)
      have n4_ := Aside0.mk (pw_below_drewN HB.out nq)
      clear HX9 HX10 B6 HB x9 x10 HC9 HC10 HD9 HD10
      generalize World.drewN _ nq = w15 at n1_ n2_ n3_ n4_ ⊢
      have HX9 := n1_
      have HX10 := n2_
      have B6 := n3_
      have HB := n4_
      clear n1_ n2_ n3_ n4_
      have HLr := Aside0.mk (show r.length ≤ 9223372036854775807 from HRL.out)
      go_wp2
      go_loopg [21] r.length (fun q v21 w' => ∃ (y : Int) (G : List (List S35)), v21 = .int .i64 y ∧ 0 ≤ y ∧ y ≤ 9223372036854775807 ∧ Aside0 (y + (q : Int) = r.length) ∧ Aside0 (G.length = g.length ∧ (G.getD z.toNat []).length = r.length ∧ ∀ j, z.toNat + 1 ≤ j → G.getD j [] = g.getD j []) ∧ Aside0 (Kd.S (Kd.slice 35 k35) 22 w' w8.heap.size (fun k => w8.heap.size ≤ k ∧ k < w9.heap.size) (.slice (some ad9) g.length c9) G) ∧ Aside0 (Kd.S (Kd.slice 35 k35) 22 w' w9.heap.size (fun k => w9.heap.size ≤ k) (.slice (some ad10) g.length c10) g) ∧ Aside0 (Below w6.heap.size w6 w') ∧ Aside0 (Below w.heap.size w w'))
      case atStart => exact ⟨0, G, rfl, by omega, by omega, ⟨by omega⟩, ⟨HGG.out.1, by have h := HGG.out.2 z.toNat (Nat.le_refl _); rw [h]; have h2 := HRR.out; unfold rd_L2 at h2; rw [h2], fun j hj => HGG.out.2 j (by omega)⟩, HX9, HX10, B6, HB⟩
      case round =>
        clear HX9 HX10 B6 HB HGG
        obtain ⟨y, G, rfl, hy1, hy2, HY, HGG, HX9, HX10, B6, HB⟩ := hrel
        cases gk with
        | zero =>
          have hyl : y = (r.length : Int) := by have := HY.out; omega
          subst hyl
          have hp : ((r.length : Int) < (r.length : Int)) = False := eq_false (Int.lt_irrefl _)
          obtain ⟨adx, D9, d9, e9, x9, hd9, hc9⟩ := at_L2 (Kd.S_reads' HX9.out).2.2 z hz1 (by have := HGG.out.1; omega)
          cases e9
          have hGl : (rd_L2 G z).length = r.length := HGG.out.2.1
          rw [hGl] at x9
          go_wp2
          go_roundg q1
          case measure => omega
          case rel => exact ⟨z + 1, G, by rw [HW.out], by omega, by have := HGL.out; omega, ⟨by have := HZ.out; omega⟩, ⟨HGG.out.1, fun j hj => HGG.out.2.2 j (by omega)⟩, HX9, HX10, B6, HB⟩
        | succ q2 =>
          have hyl : decide (y < (r.length : Int)) = true := decide_eq_true (by have := HY.out; omega)
          have hy3 := of_decide_eq_true hyl
          have hGl : (G.getD z.toNat []).length = r.length := HGG.out.2.1
          obtain ⟨gb, cb, f, yy, s1, s2, s3, s4, s5, s6, s7⟩ := spoil_step HX9.out z y hz1 hz3 hy1 (by rw [hGl]; exact hy3)
          rw [hGl] at s1 s5
          have p3 := eq_true hy1
          have p4 := eq_true hy3
          have hw2 : wrap64 (y + 1) = y + 1 := by have := HLr.out; unfold wrap64; omega
          have n2_ := Aside0.mk (Kd.S_grown HX10.out s7 (fun k_ hk e_ => by injection e_ with e_; subst e_; have := s2.2; omega))
          have n3_ := Aside0.mk (B6.out.setCell (p := ⟨gb, y.toNat * 4, none⟩) (Nat.le_trans HN.out.2 s2.1) (.int .i64 (-3)))
          have n4_ := Aside0.mk (HB.out.setCell (p := ⟨gb, y.toNat * 4, none⟩) (Nat.le_trans HN.out.1 s2.1) (.int .i64 (-3)))
          have n1_ := Aside0.mk s6
          have n5_ := Aside0.mk s5
          clear s2 s5 s6 s7 hGl
          go_wp2
          go_roundg q2
          case measure => omega
          case rel => exact ⟨y + 1, _, by go_num, by omega, by have := HLr.out; omega, ⟨by have := HY.out; omega⟩, ⟨by rw [List.length_set]; exact HGG.out.1, by rw [List.getD_eq_getElem?_getD, List.getElem?_set_self (by have := HGG.out.1; omega)]; exact n5_.out, fun j hj => by rw [List.getD_eq_getElem?_getD, List.getElem?_set_ne (by omega), ← List.getD_eq_getElem?_getD]; exact HGG.out.2.2 j hj⟩, n1_, n2_, n3_, n4_⟩
end Go.Proofs.Ytmnajajnbmlihaa.X
