import Derived.Test.YtnbeppnpfdempaaZAXx0
import Derived.Deep.OwnRows
namespace Go.Proofs.Ytnbeppnpfdempaa.X
open Go.RowKit Go.Proofs.YtnbeppnpfdempaaW.PrintWords Go.Proofs.YtnbeppnpfdempaaW.PrintLast Go.Proofs.YtnbeppnpfdempaaW.PrintMore
attribute [local go_sem] max2_int min2_int max_two min_two max_three min_three max_four min_four   -- for this text's walks alone
open Go.Proofs.YtnbeppnpfdempaaW.HandWords
set_option linter.unusedVariables false
set_option linter.unusedSimpArgs false
def hi_go : List S76 → List S76 → List S76 → List S76 × List S76
  | [], ms, ad => (ms, ad)
  | m :: l, ms, ad => if m.f0 = 43 then hi_go l (ms ++ [⟨45, m.f1⟩]) ad else if m.f0 = 45 then hi_go l ms (ad ++ [⟨43, m.f1⟩]) else hi_go l (ms ++ ad ++ [m]) []
def hunks_Invert.f (a0 a1 a2 a3 : Int) (l : List S76) : Option (Int × Int × Int × Int × List S76) :=
  if l.length ≤ 5864062014804 then some (a2, a3, a0, a1, (hi_go l [] []).1 ++ (hi_go l [] []).2) else none
structure Iv (gh ga gm : Nat) (w0 : World) (a an b bn : Int) (v vr va ve : Value) (ms ad : List S76) (W : World) : Prop where
  h : W.heap[gh]? = some (.cells #[.int .i64 a, .int .i64 an, .int .i64 b, .int .i64 bn, v] 57 (0, 0))
  ha : W.heap[ga]? = some (.cells #[va] 55 (0, 0))
  r : Kd.R k76 76 W w0.heap.size (fun k => some k ≠ ve.ownBlock ∧ k ≠ gm) vr ms
  ra : Kd.R k76 76 W w0.heap.size (fun k => some k ≠ vr.ownBlock ∧ k ≠ gm) ve ad
  b : Below w0.heap.size w0 W
  g : w0.heap.size ≤ gh
  g2 : w0.heap.size ≤ ga
  m : gm < W.heap.size
section
variable {gh ga gm : Nat} {w0 : World} {a an b bn : Int} {v vr va ve : Value} {ms ad : List S76} {W : World}
theorem hi_ne {t : Nat} (ht : t ≠ 76) : ∀ q, q ∈ 76 :: (k76).E → q ≠ t := by
  intro q hq
  have e : (k76).E = [] := rfl
  rw [e] at hq
  simp only [List.mem_cons, List.not_mem_nil, or_false] at hq
  subst hq
  exact Ne.symm ht
theorem Iv.ne (h : Iv gh ga gm w0 a an b bn v vr va ve ms ad W) : gh ≠ ga := blk_ne h.h h.ha (by decide)
theorem Iv.o1 (h : Iv gh ga gm w0 a an b bn v vr va ve ms ad W) : some gm ≠ vr.ownBlock := fun e => (h.r.1 gm e.symm).2 rfl
theorem Iv.o2 (h : Iv gh ga gm w0 a an b bn v vr va ve ms ad W) : some gm ≠ ve.ownBlock := fun e => (h.ra.1 gm e.symm).2 rfl
theorem Iv.set4 (h : Iv gh ga gm w0 a an b bn v vr va ve ms ad W) (x : Value) : Iv gh ga gm w0 a an b bn x vr va ve ms ad (W.setCell ⟨gh, 4, none⟩ x) :=
  ⟨blk_put h.h 4 _ rfl, blk_far h.ha (Ne.symm h.ne) _, Kd.R_set h.r h.h (hi_ne (by decide)) 4 _, Kd.R_set h.ra h.h (hi_ne (by decide)) 4 _, h.b.setCell h.g _, h.g, h.g2, by simpa [World.setCell] using h.m⟩
theorem Iv.setA (h : Iv gh ga gm w0 a an b bn v vr va ve ms ad W) (x : Value) : Iv gh ga gm w0 a an b bn v vr x ve ms ad (W.setCell ⟨ga, 0, none⟩ x) :=
  ⟨blk_far h.h h.ne _, blk_put h.ha 0 _ rfl, Kd.R_set h.r h.ha (hi_ne (by decide)) 0 _, Kd.R_set h.ra h.ha (hi_ne (by decide)) 0 _, h.b.setCell h.g2 _, h.g, h.g2, by simpa [World.setCell] using h.m⟩
theorem Iv.grow1 (h : Iv gh ga gm w0 a an b bn v vr va ve ms ad W) {w1 : World} {v1 : Value} {ms1 : List S76} (hg : W.grownBy w1 vr.ownBlock) (hat : v1.ownBlock = vr.ownBlock ∨ ∃ b, v1.ownBlock = some b ∧ W.heap.size ≤ b)
    (ho : Kd.R k76 76 w1 w0.heap.size (fun k => some k ≠ ve.ownBlock ∧ k ≠ gm) v1 ms1) (hb : Below w0.heap.size w0 w1) : Iv gh ga gm w0 a an b bn v v1 va ve ms1 ad w1 :=
  ⟨blk_grown h.h hg (Kd.R_ne h.r h.h (by decide)), blk_grown h.ha hg (Kd.R_ne h.r h.ha (by decide)), ho,
    Kd.R_mono (Kd.R_after (ok := fun k => k ≠ gm) (Kd.R_mono h.ra (fun _ hk => ⟨hk.2, hk.1⟩)) hg hat) (fun _ hk => ⟨hk.2, hk.1⟩), hb, h.g, h.g2, Nat.lt_of_lt_of_le h.m hg.size⟩
theorem Iv.grow2 (h : Iv gh ga gm w0 a an b bn v vr va ve ms ad W) {w1 : World} {v1 : Value} {ms1 : List S76} (hg : W.grownBy w1 ve.ownBlock) (hat : v1.ownBlock = ve.ownBlock ∨ ∃ b, v1.ownBlock = some b ∧ W.heap.size ≤ b)
    (ho : Kd.R k76 76 w1 w0.heap.size (fun k => some k ≠ vr.ownBlock ∧ k ≠ gm) v1 ms1) (hb : Below w0.heap.size w0 w1) : Iv gh ga gm w0 a an b bn v vr va v1 ms ms1 w1 :=
  ⟨blk_grown h.h hg (Kd.R_ne h.ra h.h (by decide)), blk_grown h.ha hg (Kd.R_ne h.ra h.ha (by decide)),
    Kd.R_mono (Kd.R_after (ok := fun k => k ≠ gm) (Kd.R_mono h.r (fun _ hk => ⟨hk.2, hk.1⟩)) hg hat) (fun _ hk => ⟨hk.2, hk.1⟩), ho, hb, h.g, h.g2, Nat.lt_of_lt_of_le h.m hg.size⟩
theorem Iv.clr (h : Iv gh ga gm w0 a an b bn v vr va ve ms ad W) : Iv gh ga gm w0 a an b bn v vr va (.slice none 0 0) ms [] W :=
  ⟨h.h, h.ha, Kd.R_mono h.r (fun k hk => ⟨fun e => (by cases e), hk.2⟩), Kd.R_nil _ _ _ _ _, h.b, h.g, h.g2, h.m⟩
theorem Iv.below (h : Iv gh ga gm w0 a an b bn v vr va ve ms ad W) {W' : World} (hb : Below W.heap.size W W') : Iv gh ga gm w0 a an b bn v vr va ve ms ad W' :=
  ⟨blk_below h.h hb, blk_below h.ha hb, Kd.R_below h.r hb, Kd.R_below h.ra hb, h.b.trans (hb.mono h.b.size), h.g, h.g2, Nat.lt_of_lt_of_le h.m hb.size⟩
theorem Iv.new (h : Iv gh ga gm w0 a an b bn v vr va ve ms ad W) {W' : World} (hb : Below W.heap.size W W') {g' : Nat} (hg : W.heap.size ≤ g') (hl : g' < W'.heap.size) : Iv gh ga g' w0 a an b bn v vr va ve ms ad W' :=
  have h' := h.below hb
  ⟨h'.h, h'.ha, Kd.R_mono (Kd.R_below (Kd.R_elderB h.r g' hg) hb) (fun k hk => ⟨hk.1.1, hk.2⟩), Kd.R_mono (Kd.R_below (Kd.R_elderB h.ra g' hg) hb) (fun k hk => ⟨hk.1.1, hk.2⟩), h'.b, h'.g, h'.g2, hl⟩
theorem Iv.typed (h : Iv gh ga gm w0 a an b bn v vr va ve ms ad W) {g' t : Nat} {cs : Array Value} (hb : W.heap[g']? = some (.cells cs t (0, 0))) (ht : t ≠ 76) : Iv gh ga g' w0 a an b bn v vr va ve ms ad W :=
  ⟨h.h, h.ha, Kd.R_mono (Kd.R_types h.r hb (hi_ne ht)) (fun k hk => ⟨hk.1.1, hk.2⟩), Kd.R_mono (Kd.R_types h.ra hb (hi_ne ht)) (fun k hk => ⟨hk.1.1, hk.2⟩), h.b, h.g, h.g2, blk_lt hb⟩
theorem Iv.setM (h : Iv gh ga gm w0 a an b bn v vr va ve ms ad W) (n1 : gh ≠ gm) (n2 : ga ≠ gm) (hg : w0.heap.size ≤ gm) (i : Nat) (x : Value) : Iv gh ga gm w0 a an b bn v vr va ve ms ad (W.setCell ⟨gm, i, none⟩ x) :=
  ⟨blk_far h.h n1 _, blk_far h.ha n2 _, Kd.R_far h.r (fun k hk => hk.2) _, Kd.R_far h.ra (fun k hk => hk.2) _, h.b.setCell hg _, h.g, h.g2, by simpa [World.setCell] using h.m⟩
end
def Fi (gh ga : Nat) (v : Value) (w w' : World) : Prop := ∀ (g' : Nat) (cs : Array Value) (t : TypeId), g' ≠ gh → g' ≠ ga → some g' ≠ v.ownBlock → w.heap[g']? = some (.cells cs t (0, 0)) → w'.heap[g']? = some (.cells cs t (0, 0))
theorem Fi.set4 {gh ga : Nat} {v : Value} {w W : World} (h : Fi gh ga v w W) (i : Nat) (u : Value) : Fi gh ga v w (W.setCell ⟨gh, i, none⟩ u) := fun g' cs t h1 h2 h3 h4 => blk_far (h g' cs t h1 h2 h3 h4) h1 _
theorem Fi.setA {gh ga : Nat} {v : Value} {w W : World} (h : Fi gh ga v w W) (i : Nat) (u : Value) : Fi gh ga v w (W.setCell ⟨ga, i, none⟩ u) := fun g' cs t h1 h2 h3 h4 => blk_far (h g' cs t h1 h2 h3 h4) h2 _
theorem Fi.grown {gh ga : Nat} {v : Value} {w W w1 : World} (h : Fi gh ga v w W) (hg : W.grownBy w1 v.ownBlock) : Fi gh ga v w w1 := fun g' cs t h1 h2 h3 h4 => blk_grown (h g' cs t h1 h2 h3 h4) hg h3
set_option maxHeartbeats 2000000 in
set_option maxRecDepth 100000 in
theorem hunks_Invert_1.calls (gh ga gm : Nat) (w0 : World) (a an b bn : Int) (v va : Value) (ms ad : List S76) (w : World) (hx : Iv gh ga gm w0 a an b bn v v va va ms ad w) (hlim : (ms.length + ad.length) * 24 ≤ 140737488355328) :
    Calls Try.prog 54 #[.pointer (some ⟨gh, 0, none⟩), .pointer (some ⟨ga, 0, none⟩)] w fun e w' => e = .returned (.tuple #[]) ∧ (∃ v', Iv gh ga gm w0 a an b bn v' v' (.slice none 0 0) (.slice none 0 0) (ms ++ ad) [] w') ∧ Fi gh ga v w w' := by
  obtain ⟨A2, c2, rfl⟩ := Kd.R_slice hx.ra
  have HX := Aside0.mk hx
  have HF := Aside0.mk (show Fi gh ga v w w from fun _ _ _ _ _ _ h => h)
  have HL := Aside0.mk hlim
  have NE := Aside0.mk hx.ne
  obtain ⟨m3, hm3⟩ : ∃ y, ms ++ ad = y := ⟨_, rfl⟩
  have HM := Aside0.mk hm3
  clear hx hlim hm3
  have f4 := (blk_cell HX.out.h 4).trans (show _ = some v from rfl)
  have z4 := blk_frozen HX.out.h 4
  have fa := (blk_cell HX.out.ha 0).trans (show _ = some (Value.slice A2 ad.length c2) from rfl)
  have za := blk_frozen HX.out.ha 0
  go_enter Try.func54, Try.ntmps54
  go_wp2_with (first | ((with_reducible refine gate_builtin (b := .append) (xs := #[.tmp 3, .tmp 4]) rfl ?_); at_builtin; refine Kd.R_append_rows k76 (w0 := w0) w0.heap.size rfl (.tmp 3) (.tmp 4) 55 76 (.agg #[(.int .u8 0), (.string ⟨#[]⟩)]) 24 rfl Try.underlying55 info76 rfl (by decide) (by omega) v ms ad _ _ _ (fun k_ => some k_ ≠ (.slice A2 ad.length c2 : Value).ownBlock ∧ k_ ≠ gm) (fun _ => False) rfl rfl ?aO ?aR (fun _ _ h => h) (fun _ h => h.elim) ?aF ?aB ?aS ?aL ?_; (case aR => exact (Kd.R_reads' HX.out.ra).2.2); (case aB => exact HX.out.b); (case aF => exact (fun k_ hk => ⟨Kd.fresh' (Kd.R_lt HX.out.ra) k_ hk, fun e_ => by have := HX.out.m; omega⟩)); (case aO => exact HX.out.r); (case aS => exact HX.out.b.size); (case aL => have := HL.out; omega); intro v1 w1 ho hb hg hat; rw [HM.out] at ho; obtain ⟨A3, c3, rfl⟩ := Kd.R_slice ho; have n1_ := Aside0.mk (HX.out.grow1 hg hat ho hb); have n2_ := Aside0.mk (HF.out.grown hg); clear HX HF f4 z4 fa za ho hb hg hat; have HX := n1_; have HF := n2_; clear n1_ n2_; have f4 := (blk_cell HX.out.h 4).trans (show _ = some v from rfl); have z4 := blk_frozen HX.out.h 4; have fa := (blk_cell HX.out.ha 0).trans (show _ = some (Value.slice A2 ad.length c2) from rfl); have za := blk_frozen HX.out.ha 0) | ((with_reducible refine gate_store (t := 55) (p := 6) rfl ?_); refine store_event (t := 55) (p := 6) (v := ?vo_w2) (w1 := (w1.setCell ⟨gh, 4, none⟩ (.slice A3 m3.length c3))) ?hg ?ho ?hn ?hr ?_; (case ho => rfl); (case hg => rfl); (case hn => rfl); (case hr => first | (go_simp; done) | (go_simp; rfl)); intro w2 hw; have n1_ := Aside0.mk (HX.out.set4 (.slice A3 m3.length c3)); have n2_ := Aside0.mk (HF.out.set4 4 (.slice A3 m3.length c3)); rw [← hw] at n1_ n2_; clear HX HF hw f4 z4 fa za; have HX := n1_; have HF := n2_; clear n1_ n2_; have fa := (blk_cell HX.out.ha 0).trans (show _ = some (Value.slice A2 ad.length c2) from rfl); have za := blk_frozen HX.out.ha 0) | ((with_reducible refine gate_store (t := 55) (p := 1) rfl ?_); refine store_event (t := 55) (p := 1) (v := ?vo_w3) (w1 := (w2.setCell ⟨ga, 0, none⟩ (.slice none 0 0))) ?hg ?ho ?hn ?hr ?_; (case ho => rfl); (case hg => rfl); (case hn => rfl); (case hr => first | (go_simp; done) | (go_simp; rfl)); intro w3 hw; have n1_ := Aside0.mk ((HX.out.setA (.slice none 0 0)).clr); have n2_ := Aside0.mk (HF.out.setA 0 (.slice none 0 0)); rw [← hw] at n1_ n2_; clear HX HF hw fa za; have HX := n1_; have HF := n2_; clear n1_ n2_))
  go_end0
  rw [HM.out]
  exact ⟨rfl, ⟨_, HX.out⟩, HF.out⟩
def hi_res (a0 a1 a2 a3 : Int) (l : List S76) : Int × Int × Int × Int × List S76 := (a2, a3, a0, a1, (hi_go l [] []).1 ++ (hi_go l [] []).2)
theorem hi_go_len : ∀ (l ms ad : List S76), (hi_go l ms ad).1.length + (hi_go l ms ad).2.length = ms.length + ad.length + l.length
  | [], ms, ad => rfl
  | m :: l, ms, ad => by
    rw [hi_go]
    split
    · rw [hi_go_len l, List.length_append, List.length_singleton, List.length_cons]; omega
    · split
      · rw [hi_go_len l, List.length_append, List.length_singleton, List.length_cons]; omega
      · rw [hi_go_len l, List.length_append, List.length_append, List.length_singleton, List.length_cons, List.length_nil]; omega
set_option maxHeartbeats 4000000 in
set_option maxRecDepth 100000 in
theorem hunks_Invert.calls (a0 a1 a2 a3 : Int) (A0 : Option Addr) (c0 : Nat) (l0 : List S76) (r1 r2 r3 r4 : Int) (r5 : List S76) (w : World) (hr0 : Kd.C k76 w A0 l0.length l0) (hc0 : l0.length ≤ c0) (h : hunks_Invert.f a0 a1 a2 a3 l0 = some (r1, r2, r3, r4, r5)) :
    Calls Try.prog 38 #[.agg #[.int .i64 a0, .int .i64 a1, .int .i64 a2, .int .i64 a3, .slice A0 l0.length c0]] w fun e w' => ∃ v4_ : Value, e = .returned (.agg #[.int .i64 r1, .int .i64 r2, .int .i64 r3, .int .i64 r4, v4_]) ∧ Kd.R k76 76 w' w.heap.size (fun _ => True) v4_ r5 ∧ Below w.heap.size w w' := by
  unfold hunks_Invert.f at h
  by_cases hg : l0.length ≤ 5864062014804
  case neg => rw [if_neg hg] at h; cases h
  rw [if_pos hg] at h
  simp only [Option.some.injEq, Prod.mk.injEq] at h
  obtain ⟨rfl, rfl, rfl, rfl, h5⟩ := h
  obtain ⟨⟨ms9, ad9⟩, hR⟩ : ∃ R, hi_go l0 [] [] = R := ⟨_, rfl⟩
  have hlen := hi_go_len l0 [] []
  rw [hR] at h5 hlen
  have H5 := Aside0.mk h5
  have HLEN := Aside0.mk (show ms9.length + ad9.length = l0.length by simpa using hlen)
  have HGO := Aside0.mk hR
  have HN := Aside0.mk hg
  have HR0 := Aside0.mk hr0
  have HC0 := Aside0.mk hc0
  have HB := Aside0.mk (Below.refl w.heap.size w)
  clear hr0 hc0 hg hR h5 hlen
  go_enter Try.func38, Try.ntmps38
  go_upto_region 1 with (first | ((with_reducible refine gate_dst (N := 1) rfl ?_); refine box_event ?hg (N := 1) ?hd (cs := #[.int .i64 a0, .int .i64 a1, .int .i64 a2, .int .i64 a3, .slice A0 l0.length c0]) (t := 57) ?hr ?_; (case hd => rfl); (case hg => rfl); (case hr => first | (go_simp; done) | (go_simp; rfl)); intro g1 hg w1 hbox hb; have n1_ := Aside0.mk (below_step HB.out hb); clear HB; have HB := n1_; clear n1_; have B1 := Aside0.mk hbox; clear hbox hg hb) | ((with_reducible refine gate_dst (N := 2) rfl ?_); refine box_event ?hg (N := 2) ?hd (cs := #[.int .i64 0, .int .i64 0, .int .i64 0, .int .i64 0, .slice none 0 0]) (t := 57) ?hr ?_; (case hd => rfl); (case hg => rfl); (case hr => first | (go_simp; done) | (go_simp; rfl)); intro gr hg w2 hbox hb; have G1 := Aside0.mk (show g1 ≠ gr by rw [hg]; have := blk_lt B1.out; omega); have GR := Aside0.mk (by rw [hg]; exact HB.out.size : w.heap.size ≤ gr); have n1_ := Aside0.mk (below_step HB.out hb); have n2_ := Aside0.mk (blk_below B1.out hb); clear HB B1; have HB := n1_; have B1 := n2_; clear n1_ n2_; have BR := Aside0.mk hbox; clear hbox hg hb))
  have q0 := (blk_cell B1.out 0).trans (show _ = some (Value.int .i64 a0) from rfl); have q1 := (blk_cell B1.out 1).trans (show _ = some (Value.int .i64 a1) from rfl); have q2 := (blk_cell B1.out 2).trans (show _ = some (Value.int .i64 a2) from rfl); have q3 := (blk_cell B1.out 3).trans (show _ = some (Value.int .i64 a3) from rfl); have q4 := (blk_cell B1.out 4).trans (show _ = some (Value.slice A0 l0.length c0) from rfl)
  go_upto_region 2 with (first | ((with_reducible refine gate_dst (N := 3) rfl ?_); refine box_event ?hg (N := 3) ?hd (cs := #[.int .i64 0, .int .i64 0, .int .i64 0, .int .i64 0, .slice none 0 0]) (t := 57) ?hr ?_; (case hd => rfl); (case hg => rfl); (case hr => first | (go_simp; done) | (go_simp; rfl)); intro gh hg w3 hbox hb; have NE1 := Aside0.mk (show g1 ≠ gh by rw [hg]; have := blk_lt B1.out; omega); have NE := Aside0.mk (show gr ≠ gh by rw [hg]; have := blk_lt BR.out; omega); have GH := Aside0.mk (by rw [hg]; exact HB.out.size : w.heap.size ≤ gh); have n1_ := Aside0.mk (below_step HB.out hb); have n2_ := Aside0.mk (blk_below B1.out hb); have n3_ := Aside0.mk (blk_below BR.out hb); clear HB B1 BR q0 q1 q2 q3 q4; have HB := n1_; have B1 := n2_; have BR := n3_; clear n1_ n2_ n3_; have BH := Aside0.mk hbox; clear hbox hg hb; have q0 := (blk_cell B1.out 0).trans (show _ = some (Value.int .i64 a0) from rfl); have q1 := (blk_cell B1.out 1).trans (show _ = some (Value.int .i64 a1) from rfl); have q2 := (blk_cell B1.out 2).trans (show _ = some (Value.int .i64 a2) from rfl); have q3 := (blk_cell B1.out 3).trans (show _ = some (Value.int .i64 a3) from rfl); have q4 := (blk_cell B1.out 4).trans (show _ = some (Value.slice A0 l0.length c0) from rfl); have o0 := (blk_cell BH.out 0).trans (show _ = some (Value.int .i64 0) from rfl); have o1 := (blk_cell BH.out 1).trans (show _ = some (Value.int .i64 0) from rfl); have o2 := (blk_cell BH.out 2).trans (show _ = some (Value.int .i64 0) from rfl); have o3 := (blk_cell BH.out 3).trans (show _ = some (Value.int .i64 0) from rfl); have o4 := (blk_cell BH.out 4).trans (show _ = some (Value.slice none 0 0) from rfl); have k0 := blk_frozen BH.out 0; have k1 := blk_frozen BH.out 1; have k2 := blk_frozen BH.out 2; have k3 := blk_frozen BH.out 3; have k4 := blk_frozen BH.out 4) | ((with_reducible refine gate_store (t := 57) (p := 3) rfl ?_); refine store_event (t := 57) (p := 3) (v := ?vo_w4) (w1 := (((((w3.setCell ⟨gh, 0, none⟩ (.int .i64 a2)).setCell ⟨gh, 1, none⟩ (.int .i64 a3)).setCell ⟨gh, 2, none⟩ (.int .i64 a0)).setCell ⟨gh, 3, none⟩ (.int .i64 a1)).setCell ⟨gh, 4, none⟩ (.slice none 0 0))) ?hg ?ho ?hn ?hr ?_; (case ho => rfl); (case hg => rfl); (case hn => rfl); (case hr => first | (go_simp; done) | (go_simp; rfl)); intro w4 hw; have n0_ : Aside0 (w4.heap[gh]? = some (.cells #[.int .i64 a2, .int .i64 a3, .int .i64 a0, .int .i64 a1, .slice none 0 0] 57 (0, 0))) := ⟨by rw [hw]; exact blk_put (blk_put (blk_put (blk_put (blk_put BH.out 0 _ rfl) 1 _ rfl) 2 _ rfl) 3 _ rfl) 4 _ rfl⟩; have n1_ : Aside0 (w4.heap[g1]? = some (.cells #[.int .i64 a0, .int .i64 a1, .int .i64 a2, .int .i64 a3, .slice A0 l0.length c0] 57 (0, 0))) := ⟨by rw [hw]; exact blk_far (blk_far (blk_far (blk_far (blk_far B1.out NE1.out _) NE1.out _) NE1.out _) NE1.out _) NE1.out _⟩; have n2_ : Aside0 (w4.heap[gr]? = some (.cells #[.int .i64 0, .int .i64 0, .int .i64 0, .int .i64 0, .slice none 0 0] 57 (0, 0))) := ⟨by rw [hw]; exact blk_far (blk_far (blk_far (blk_far (blk_far BR.out NE.out _) NE.out _) NE.out _) NE.out _) NE.out _⟩; have n3_ : Aside0 (Below w.heap.size w w4) := ⟨by rw [hw]; exact ((((HB.out.setCell GH.out _).setCell GH.out _).setCell GH.out _).setCell GH.out _).setCell GH.out _⟩; clear HB B1 BR BH hw q0 q1 q2 q3 q4 o0 o1 o2 o3 o4 k0 k1 k2 k3 k4; have BH := n0_; have B1 := n1_; have BR := n2_; have HB := n3_; clear n0_ n1_ n2_ n3_))
  go_upto_region 3 with ((with_reducible refine gate_dst (N := 4) rfl ?_); refine box_event ?hg (N := 4) ?hd (cs := #[.slice none 0 0]) (t := 55) ?hr ?_; (case hd => rfl); (case hg => rfl); (case hr => first | (go_simp; done) | (go_simp; rfl)); intro ga hg w5 hbox hb; have GA := Aside0.mk (by rw [hg]; exact HB.out.size : w.heap.size ≤ ga); have n1_ := Aside0.mk (below_step HB.out hb); have n2_ := Aside0.mk (blk_below B1.out hb); have n3_ := Aside0.mk (blk_below BR.out hb); have n4_ := Aside0.mk (blk_below BH.out hb); clear HB B1 BR BH; have B1 := n2_; have BR := n3_; have HX : Aside0 (Iv gh ga gr w a2 a3 a0 a1 (.slice none 0 0) (.slice none 0 0) (.slice none 0 0) (.slice none 0 0) [] [] w5) := ⟨Iv.mk n4_.out hbox (Kd.R_nil _ _ _ _ _) (Kd.R_nil _ _ _ _ _) n1_.out GH.out GA.out (blk_lt n3_.out)⟩; clear n1_ n2_ n3_ n4_ hbox hg hb)
  have q4 := (blk_cell B1.out 4).trans (show _ = some (Value.slice A0 l0.length c0) from rfl)
  go_wp2
  go_loopg [21] l0.length (fun q v21 w' => ∃ (z : Int) (v va : Value) (ms ad : List S76), v21 = .int .i64 z ∧ 0 ≤ z ∧ z ≤ 10000000000000 ∧ Aside0 (z + (q : Int) = l0.length ∧ (ms.length : Int) + ad.length = z) ∧ Aside0 (hi_go (l0.drop z.toNat) ms ad = (ms9, ad9)) ∧ Aside0 (Iv gh ga gr w a2 a3 a0 a1 v v va va ms ad w') ∧ Aside0 (w'.heap[gr]? = some (.cells #[.int .i64 0, .int .i64 0, .int .i64 0, .int .i64 0, .slice none 0 0] 57 (0, 0))))
  case atStart =>
    exact ⟨0, _, _, [], [], rfl, by omega, by omega, ⟨by omega, by simp⟩, ⟨by rw [show (0 : Int).toNat = 0 from rfl, List.drop_zero]; exact HGO.out⟩, HX, BR⟩
  case round =>
    clear HGO HX BR q4
    obtain ⟨z, v, va, ms, ad, rfl, hz1, hz2, HZ, HGO, HX, BR⟩ := hrel
    have HL : Aside0 ((ms.length + ad.length) * 24 ≤ 140737488355328) := ⟨by have := HZ.out; have := HN.out; omega⟩
    cases gk with
    | zero =>
      have hzl : z = (l0.length : Int) := by have := HZ.out.1; omega
      subst hzl
      have hp : ((l0.length : Int) < (l0.length : Int)) = False := eq_false (Int.lt_irrefl _)
      have h := HGO.out
      rw [Int.toNat_natCast, List.drop_length, hi_go] at h
      simp only [Prod.mk.injEq] at h
      obtain ⟨rfl, rfl⟩ := h
      obtain ⟨m9, hm9⟩ : ∃ y, ms ++ ad = y := ⟨_, rfl⟩
      have HM9 := Aside0.mk hm9
      clear hm9
      go_upto_region 16 with (go_at_call 54; refine (hunks_Invert_1.calls gh ga gr w a2 a3 a0 a1 v va ms ad _ HX.out HL.out).mono ?_; rintro e w7 ⟨rfl, ⟨v7, hx⟩, hf⟩; rw [HM9.out] at hx; obtain ⟨A7, c7, rfl⟩ := Kd.R_slice hx.r; have n1_ := Aside0.mk hx; have n2_ := Aside0.mk (hf gr _ _ NE.out (blk_ne BR.out HX.out.ha (by decide)) (Kd.R_ne HX.out.r BR.out (by decide)) BR.out); clear HX BR hx hf; have HX := n1_; have BR := n2_; clear n1_ n2_)
      have q0 := (blk_cell HX.out.h 0).trans (show _ = some (Value.int .i64 a2) from rfl)
      have q1 := (blk_cell HX.out.h 1).trans (show _ = some (Value.int .i64 a3) from rfl)
      have q2 := (blk_cell HX.out.h 2).trans (show _ = some (Value.int .i64 a0) from rfl)
      have q3 := (blk_cell HX.out.h 3).trans (show _ = some (Value.int .i64 a1) from rfl)
      have q4 := (blk_cell HX.out.h 4).trans (show _ = some (Value.slice A7 m9.length c7) from rfl)
      have o0 := (blk_cell BR.out 0).trans (show _ = some (Value.int .i64 0) from rfl)
      have k0 := blk_frozen BR.out 0
      have o1 := (blk_cell BR.out 1).trans (show _ = some (Value.int .i64 0) from rfl)
      have k1 := blk_frozen BR.out 1
      have o2 := (blk_cell BR.out 2).trans (show _ = some (Value.int .i64 0) from rfl)
      have k2 := blk_frozen BR.out 2
      have o3 := (blk_cell BR.out 3).trans (show _ = some (Value.int .i64 0) from rfl)
      have k3 := blk_frozen BR.out 3
      have o4 := (blk_cell BR.out 4).trans (show _ = some (Value.slice none 0 0) from rfl)
      have k4 := blk_frozen BR.out 4
      go_wp2_with ((with_reducible refine gate_store (t := 57) (p := 2) rfl ?_); refine store_event (t := 57) (p := 2) (v := ?vo_w8) (w1 := (((((w7.setCell ⟨gr, 0, none⟩ (.int .i64 a2)).setCell ⟨gr, 1, none⟩ (.int .i64 a3)).setCell ⟨gr, 2, none⟩ (.int .i64 a0)).setCell ⟨gr, 3, none⟩ (.int .i64 a1)).setCell ⟨gr, 4, none⟩ (.slice A7 m9.length c7))) ?hg ?ho ?hn ?hr ?_; (case ho => rfl); (case hg => rfl); (case hn => rfl); (case hr => first | (go_simp; done) | (go_simp; rfl)); intro w8 hw; have n0_ : Aside0 (w8.heap[gr]? = some (.cells #[.int .i64 a2, .int .i64 a3, .int .i64 a0, .int .i64 a1, .slice A7 m9.length c7] 57 (0, 0))) := ⟨by rw [hw]; exact blk_put (blk_put (blk_put (blk_put (blk_put BR.out 0 _ rfl) 1 _ rfl) 2 _ rfl) 3 _ rfl) 4 _ rfl⟩; have n1_ : Aside0 (Kd.R k76 76 w8 w.heap.size (fun _ => True) (.slice A7 m9.length c7) m9) := ⟨by rw [hw]; exact Kd.R_mono (Kd.R_far (Kd.R_far (Kd.R_far (Kd.R_far (Kd.R_far HX.out.r (fun k hk => hk.2) _) (fun k hk => hk.2) _) (fun k hk => hk.2) _) (fun k hk => hk.2) _) (fun k hk => hk.2) _) (fun _ _ => trivial)⟩; have n2_ : Aside0 (Below w.heap.size w w8) := ⟨by rw [hw]; exact ((((HX.out.b.setCell GR.out _).setCell GR.out _).setCell GR.out _).setCell GR.out _).setCell GR.out _⟩; clear HX BR hw q0 q1 q2 q3 q4 o0 o1 o2 o3 o4 k0 k1 k2 k3 k4; have BR := n0_; have HRR := n1_; have HB := n2_; clear n0_ n1_ n2_)
      refine bodyPost_ret (results_cell_row rfl _ _ gr 57 #[.int .i64 a2, .int .i64 a3, .int .i64 a0, .int .i64 a1, .slice A7 m9.length c7] (0, 0) _ rfl BR.out Try.underlying57 rfl (by kernel_rfl)) rfl ?_
      have h5 := H5.out
      rw [HM9.out] at h5
      subst h5
      exact ⟨_, rfl, HRR.out, HB.out⟩
    | succ q1 =>
      have hzl : decide (z < (l0.length : Int)) = true := decide_eq_true (by have := HZ.out.1; omega)
      have hz3 := of_decide_eq_true hzl
      obtain ⟨ad1, ea1, x0, x1⟩ := at_T76 HR0.out z hz1 hz3
      cases ea1
      replace x0 := (HX.out.b.cell (World.block_lt_of_cell? w _ x0)).trans x0
      replace x1 := (HX.out.b.cell (World.block_lt_of_cell? w _ x1)).trans x1
      have p1 := eq_true hz1
      have p2 := eq_true hz3
      have hw : wrap64 (z + 1) = z + 1 := by unfold wrap64; omega
      have HW := Aside0.mk hw
      have hd : l0.drop z.toNat = rd_T76 l0 z :: l0.drop (z + 1).toNat := by
        rw [show (z + 1).toNat = z.toNat + 1 by omega, List.drop_eq_getElem_cons (by omega)]
        simp [rd_T76, List.getD_eq_getElem?_getD, show z.toNat < l0.length by omega]
      obtain ⟨m, hm⟩ : ∃ m, rd_T76 l0 z = m := ⟨_, rfl⟩
      rw [hm] at x0 x1 hd
      have hgo := HGO.out
      rw [hd, hi_go] at hgo
      have HG := Aside0.mk hgo
      clear hgo hd hw hz3 hm HGO
      obtain ⟨sg, hsg⟩ : ∃ s, m.f0 = s := ⟨_, rfl⟩
      obtain ⟨tx, htx⟩ : ∃ s, m.f1 = s := ⟨_, rfl⟩
      obtain rfl : m = ⟨sg, tx⟩ := by rw [← hsg, ← htx]
      clear hsg htx
      dsimp only at x0 x1
      replace HG : Aside0 ((if sg = 43 then hi_go (l0.drop (z + 1).toNat) (ms ++ [⟨45, tx⟩]) ad else if sg = 45 then hi_go (l0.drop (z + 1).toNat) ms (ad ++ [⟨43, tx⟩]) else hi_go (l0.drop (z + 1).toNat) (ms ++ ad ++ [⟨sg, tx⟩]) []) = (ms9, ad9)) := ⟨HG.out⟩
      go_upto_region 7 with (first | ((with_reducible refine gate_dst (N := 7) rfl ?_); refine box_event ?hg (N := 7) ?hd (cs := #[.int .u8 0, .string ⟨#[]⟩]) (t := 76) ?hr ?_; (case hd => rfl); (case hg => rfl); (case hr => first | (go_simp; done) | (go_simp; rfl)); intro gm hg w5 hbox hb; have N1 := Aside0.mk (show gh ≠ gm by rw [hg]; have := blk_lt HX.out.h; omega); have N2 := Aside0.mk (show ga ≠ gm by rw [hg]; have := blk_lt HX.out.ha; omega); have N3 := Aside0.mk (show gr ≠ gm by rw [hg]; have := blk_lt BR.out; omega); have GM := Aside0.mk (show w.heap.size ≤ gm by rw [hg]; exact HX.out.b.size); have n1_ := Aside0.mk (HX.out.new hb (Nat.le_of_eq hg.symm) (blk_lt hbox)); have n2_ := Aside0.mk (blk_below BR.out hb); have BM := Aside0.mk hbox; have xx0 := (hb.cell (World.block_lt_of_cell? _ _ x0)).trans x0; have xx1 := (hb.cell (World.block_lt_of_cell? _ _ x1)).trans x1; clear HX BR hbox hg hb x0 x1; have x0 := xx0; have x1 := xx1; clear xx0 xx1; have HX := n1_; have BR := n2_; clear n1_ n2_; have e0 := (blk_cell BM.out 0).trans (show _ = some (Value.int .u8 0) from rfl); have e1 := (blk_cell BM.out 1).trans (show _ = some (Value.string ⟨#[]⟩) from rfl); have k0 := blk_frozen BM.out 0; have k1 := blk_frozen BM.out 1) | ((with_reducible refine gate_store (t := 76) (p := 7) rfl ?_); refine store_event (t := 76) (p := 7) (v := ?vo_w6) (w1 := ((w5.setCell ⟨gm, 0, none⟩ (.int .u8 sg)).setCell ⟨gm, 1, none⟩ (.string tx))) ?hg ?ho ?hn ?hr ?_; (case ho => rfl); (case hg => rfl); (case hn => rfl); (case hr => first | (go_simp; done) | (go_simp; rfl)); intro w6 hw; have n0_ : Aside0 (w6.heap[gm]? = some (.cells #[.int .u8 sg, .string tx] 76 (0, 0))) := ⟨by rw [hw]; exact blk_put (blk_put BM.out 0 _ rfl) 1 _ rfl⟩; have n1_ : Aside0 (Iv gh ga gm w a2 a3 a0 a1 v v va va ms ad w6) := ⟨by rw [hw]; exact (HX.out.setM N1.out N2.out GM.out 0 _).setM N1.out N2.out GM.out 1 _⟩; have n2_ : Aside0 (w6.heap[gr]? = some (.cells #[.int .i64 0, .int .i64 0, .int .i64 0, .int .i64 0, .slice none 0 0] 57 (0, 0))) := ⟨by rw [hw]; exact blk_far (blk_far BR.out N3.out _) N3.out _⟩; clear HX BR BM hw e0 e1 k0 k1 x0 x1; have BM := n0_; have HX := n1_; have BR := n2_; clear n0_ n1_ n2_; have y0 := (blk_cell BM.out 0).trans (show _ = some (Value.int .u8 sg) from rfl); have y1 := (blk_cell BM.out 1).trans (show _ = some (Value.string tx) from rfl)))
      by_cases c1 : sg = 43
      · have c1b : (sg == 43) = true := beq_iff_eq.mpr c1
        have HG2 : Aside0 (hi_go (l0.drop (z + 1).toNat) (ms ++ [⟨45, tx⟩]) ad = (ms9, ad9)) := ⟨by have h := HG.out; rw [if_pos c1] at h; exact h⟩
        have f4 := (blk_cell HX.out.h 4).trans (show _ = some v from rfl)
        have z4 := blk_frozen HX.out.h 4
        obtain ⟨m8, hm8⟩ : ∃ y, ms ++ [(⟨45, tx⟩ : S76)] = y := ⟨_, rfl⟩
        have HM8 := Aside0.mk hm8
        clear hm8 c1 HG
        go_wp2_with (first | ((with_reducible refine gate_builtin (b := .append) (xs := #[.tmp 38, .tmp 42]) rfl ?_); at_builtin; refine Kd.R_append k76 (w0 := w) w.heap.size rfl (.tmp 38) (.tmp 42) 55 76 (.agg #[(.int .u8 0), (.string ⟨#[]⟩)]) 24 rfl Try.underlying55 info76 rfl (by decide) (by omega) v ms (⟨45, tx⟩ : S76) [.int .u8 45, .string tx] (fun k_ => some k_ ≠ va.ownBlock ∧ k_ ≠ gm) (fun _ => False) rfl rfl ?aP (fun _ hk => hk.elim) ?aF ?aO ?aB ?aS ?aL ?_; (case aP => exact k76_mkM _ _ _ (⟨45, tx⟩ : S76)); (case aB => exact HX.out.b); (case aF => exact (fun k_ hk => ⟨Kd.fresh' (Kd.R_lt HX.out.ra) k_ hk, fun e_ => by have := HX.out.m; omega⟩)); (case aO => exact HX.out.r); (case aS => exact HX.out.b.size); (case aL => have := HL.out; have := HZ.out; have := HN.out; omega); intro v1 w9 ho hb hg hat; rw [HM8.out] at ho; obtain ⟨A9, c9, rfl⟩ := Kd.R_slice ho; have n1_ := Aside0.mk (HX.out.grow1 hg hat ho hb); have n2_ := Aside0.mk (blk_grown BR.out hg (Kd.R_ne HX.out.r BR.out (by decide))); clear HX BR ho hb hg hat; have HX := n1_; have BR := n2_; clear n1_ n2_; clear y0 y1 f4 z4; have f4 := (blk_cell HX.out.h 4).trans (show _ = some v from rfl); have z4 := blk_frozen HX.out.h 4) | ((with_reducible refine gate_store (t := 55) (p := 44) rfl ?_); refine store_event (t := 55) (p := 44) (v := ?vo_w10a) (w1 := (w9.setCell ⟨gh, 4, none⟩ (.slice A9 m8.length c9))) ?hg ?ho ?hn ?hr ?_; (case ho => rfl); (case hg => rfl); (case hn => rfl); (case hr => first | (go_simp; done) | (go_simp; rfl)); intro w10 hw; have n1_ : Aside0 (Iv gh ga gm w a2 a3 a0 a1 (.slice A9 m8.length c9) (.slice A9 m8.length c9) va va m8 ad w10) := ⟨by rw [hw]; exact HX.out.set4 _⟩; have n2_ : Aside0 (w10.heap[gr]? = some (.cells #[.int .i64 0, .int .i64 0, .int .i64 0, .int .i64 0, .slice none 0 0] 57 (0, 0))) := ⟨by rw [hw]; exact blk_far BR.out NE.out _⟩; clear HX BR hw f4 z4; have HX := n1_; have BR := n2_; clear n1_ n2_))
        go_roundg q1
        case measure => omega
        case rel => exact ⟨z + 1, _, va, m8, ad, by go_num, by omega, by have := HZ.out.1; have := HN.out; omega, ⟨by have := HZ.out.1; omega, by have := HZ.out.2; have e_ := congrArg List.length HM8.out; simp only [List.length_append, List.length_cons, List.length_nil] at e_; omega⟩, ⟨by have h := HG2.out; rw [HM8.out] at h; exact h⟩, ⟨HX.out.typed BR.out (by decide)⟩, BR⟩
      have c1b : (sg == 43) = false := beq_eq_false_iff_ne.mpr c1
      by_cases c2 : sg = 45
      · have c2b : (sg == 45) = true := beq_iff_eq.mpr c2
        have HG2 : Aside0 (hi_go (l0.drop (z + 1).toNat) ms (ad ++ [⟨43, tx⟩]) = (ms9, ad9)) := ⟨by have h := HG.out; rw [if_neg c1, if_pos c2] at h; exact h⟩
        have f4 := (blk_cell HX.out.ha 0).trans (show _ = some va from rfl)
        have z4 := blk_frozen HX.out.ha 0
        obtain ⟨m8, hm8⟩ : ∃ y, ad ++ [(⟨43, tx⟩ : S76)] = y := ⟨_, rfl⟩
        have HM8 := Aside0.mk hm8
        clear hm8 c1 c2 HG
        go_wp2_with (first | ((with_reducible refine gate_builtin (b := .append) (xs := #[.tmp 47, .tmp 51]) rfl ?_); at_builtin; refine Kd.R_append k76 (w0 := w) w.heap.size rfl (.tmp 47) (.tmp 51) 55 76 (.agg #[(.int .u8 0), (.string ⟨#[]⟩)]) 24 rfl Try.underlying55 info76 rfl (by decide) (by omega) va ad (⟨43, tx⟩ : S76) [.int .u8 43, .string tx] (fun k_ => some k_ ≠ v.ownBlock ∧ k_ ≠ gm) (fun _ => False) rfl rfl ?aP (fun _ hk => hk.elim) ?aF ?aO ?aB ?aS ?aL ?_; (case aP => exact k76_mkM _ _ _ (⟨43, tx⟩ : S76)); (case aB => exact HX.out.b); (case aF => exact (fun k_ hk => ⟨Kd.fresh' (Kd.R_lt HX.out.r) k_ hk, fun e_ => by have := HX.out.m; omega⟩)); (case aO => exact HX.out.ra); (case aS => exact HX.out.b.size); (case aL => have := HL.out; have := HZ.out; have := HN.out; omega); intro v1 w9 ho hb hg hat; rw [HM8.out] at ho; obtain ⟨A9, c9, rfl⟩ := Kd.R_slice ho; have n1_ := Aside0.mk (HX.out.grow2 hg hat ho hb); have n2_ := Aside0.mk (blk_grown BR.out hg (Kd.R_ne HX.out.ra BR.out (by decide))); clear HX BR ho hb hg hat; have HX := n1_; have BR := n2_; clear n1_ n2_; clear y0 y1 f4 z4; have f4 := (blk_cell HX.out.ha 0).trans (show _ = some va from rfl); have z4 := blk_frozen HX.out.ha 0) | ((with_reducible refine gate_store (t := 55) (p := 4) rfl ?_); refine store_event (t := 55) (p := 4) (v := ?vo_w10b) (w1 := (w9.setCell ⟨ga, 0, none⟩ (.slice A9 m8.length c9))) ?hg ?ho ?hn ?hr ?_; (case ho => rfl); (case hg => rfl); (case hn => rfl); (case hr => first | (go_simp; done) | (go_simp; rfl)); intro w10 hw; have n1_ : Aside0 (Iv gh ga gm w a2 a3 a0 a1 v v (.slice A9 m8.length c9) (.slice A9 m8.length c9) ms m8 w10) := ⟨by rw [hw]; exact HX.out.setA _⟩; have n2_ : Aside0 (w10.heap[gr]? = some (.cells #[.int .i64 0, .int .i64 0, .int .i64 0, .int .i64 0, .slice none 0 0] 57 (0, 0))) := ⟨by rw [hw]; exact blk_far BR.out (blk_ne BR.out HX.out.ha (by decide)) _⟩; clear HX BR hw f4 z4; have HX := n1_; have BR := n2_; clear n1_ n2_))
        go_roundg q1
        case measure => omega
        case rel => exact ⟨z + 1, v, _, ms, m8, by go_num, by omega, by have := HZ.out.1; have := HN.out; omega, ⟨by have := HZ.out.1; omega, by have := HZ.out.2; have e_ := congrArg List.length HM8.out; simp only [List.length_append, List.length_cons, List.length_nil] at e_; omega⟩, ⟨by have h := HG2.out; rw [HM8.out] at h; exact h⟩, ⟨HX.out.typed BR.out (by decide)⟩, BR⟩
      have c2b : (sg == 45) = false := beq_eq_false_iff_ne.mpr c2
      have HG2 : Aside0 (hi_go (l0.drop (z + 1).toNat) (ms ++ ad ++ [⟨sg, tx⟩]) [] = (ms9, ad9)) := ⟨by have h := HG.out; rw [if_neg c1, if_neg c2] at h; exact h⟩
      obtain ⟨m7, hm7⟩ : ∃ y, ms ++ ad = y := ⟨_, rfl⟩
      obtain ⟨m8, hm8⟩ : ∃ y, m7 ++ [(⟨sg, tx⟩ : S76)] = y := ⟨_, rfl⟩
      have HM7 := Aside0.mk hm7
      have HM8 := Aside0.mk (show ms ++ ad ++ [(⟨sg, tx⟩ : S76)] = m8 by rw [hm7]; exact hm8)
      have HM9 := Aside0.mk hm8
      have HL7 := Aside0.mk (show m7.length = ms.length + ad.length by rw [← hm7, List.length_append])
      clear hm7 hm8 c1 c2 HG
      go_wp2_with (first | (go_at_call 54; refine (hunks_Invert_1.calls gh ga gm w a2 a3 a0 a1 v va ms ad _ HX.out HL.out).mono ?_; rintro e w7 ⟨rfl, ⟨v7, hx⟩, hf⟩; rw [HM7.out] at hx; have n1_ := Aside0.mk hx; have n2_ := Aside0.mk (hf gr _ _ NE.out (blk_ne BR.out HX.out.ha (by decide)) (Kd.R_ne HX.out.r BR.out (by decide)) BR.out); have n3_ := Aside0.mk (hf gm _ _ (Ne.symm N1.out) (Ne.symm N2.out) HX.out.o1 BM.out); clear HX BR BM hx hf y0 y1; have HX := n1_; have BR := n2_; have BM := n3_; clear n1_ n2_ n3_; have y0 := (blk_cell BM.out 0).trans (show _ = some (Value.int .u8 sg) from rfl); have y1 := (blk_cell BM.out 1).trans (show _ = some (Value.string tx) from rfl); have f4 := (blk_cell HX.out.h 4).trans (show _ = some v7 from rfl); have z4 := blk_frozen HX.out.h 4) | ((with_reducible refine gate_builtin (b := .append) (xs := #[.tmp 30, .tmp 32]) rfl ?_); at_builtin; refine Kd.R_append k76 (w0 := w) w.heap.size rfl (.tmp 30) (.tmp 32) 55 76 (.agg #[(.int .u8 0), (.string ⟨#[]⟩)]) 24 rfl Try.underlying55 info76 rfl (by decide) (by omega) v7 m7 (⟨sg, tx⟩ : S76) [.int .u8 sg, .string tx] (fun k_ => some k_ ≠ (Value.slice none 0 0).ownBlock ∧ k_ ≠ gm) (fun _ => False) rfl rfl ?aP (fun _ hk => hk.elim) ?aF ?aO ?aB ?aS ?aL ?_; (case aP => exact k76_mkM _ _ _ (⟨sg, tx⟩ : S76)); (case aB => exact HX.out.b); (case aF => exact (fun k_ hk => ⟨Kd.fresh' (Kd.R_lt HX.out.ra) k_ hk, fun e_ => by have := HX.out.m; omega⟩)); (case aO => exact HX.out.r); (case aS => exact HX.out.b.size); (case aL => have := HL7.out; have := HZ.out; have := HN.out; omega); intro v1 w9 ho hb hg hat; rw [HM9.out] at ho; obtain ⟨A9, c9, rfl⟩ := Kd.R_slice ho; have n1_ := Aside0.mk (HX.out.grow1 hg hat ho hb); have n2_ := Aside0.mk (blk_grown BR.out hg (Kd.R_ne HX.out.r BR.out (by decide))); clear HX BR ho hb hg hat; have HX := n1_; have BR := n2_; clear n1_ n2_; clear y0 y1 f4 z4; have f4 := (blk_cell HX.out.h 4).trans (show _ = some v7 from rfl); have z4 := blk_frozen HX.out.h 4) | ((with_reducible refine gate_store (t := 55) (p := 34) rfl ?_); refine store_event (t := 55) (p := 34) (v := ?vo_w10c) (w1 := (w9.setCell ⟨gh, 4, none⟩ (.slice A9 m8.length c9))) ?hg ?ho ?hn ?hr ?_; (case ho => rfl); (case hg => rfl); (case hn => rfl); (case hr => first | (go_simp; done) | (go_simp; rfl)); intro w10 hw; have n1_ : Aside0 (Iv gh ga gm w a2 a3 a0 a1 (.slice A9 m8.length c9) (.slice A9 m8.length c9) (.slice none 0 0) (.slice none 0 0) m8 [] w10) := ⟨by rw [hw]; exact HX.out.set4 _⟩; have n2_ : Aside0 (w10.heap[gr]? = some (.cells #[.int .i64 0, .int .i64 0, .int .i64 0, .int .i64 0, .slice none 0 0] 57 (0, 0))) := ⟨by rw [hw]; exact blk_far BR.out NE.out _⟩; clear HX BR hw f4 z4; have HX := n1_; have BR := n2_; clear n1_ n2_))
      go_roundg q1
      case measure => omega
      case rel => exact ⟨z + 1, _, _, m8, [], by go_num, by omega, by have := HZ.out.1; have := HN.out; omega, ⟨by have := HZ.out.1; omega, by have := HZ.out.2; have e_ := congrArg List.length HM8.out; simp only [List.length_append, List.length_cons, List.length_nil] at e_; simp only [List.length_nil]; omega⟩, ⟨by have h := HG2.out; rw [HM8.out] at h; exact h⟩, ⟨HX.out.typed BR.out (by decide)⟩, BR⟩
end Go.Proofs.Ytnbeppnpfdempaa.X
