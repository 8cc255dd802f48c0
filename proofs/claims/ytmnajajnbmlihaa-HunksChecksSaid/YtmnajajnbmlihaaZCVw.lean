/- HunksChecks: the walk of the law's function, where both sides tell the same. -/
import Derived.Test.YtmnajajnbmlihaaZCXx20
import Derived.Test.YtmnajajnbmlihaaZCXx25
import Derived.Test.YtmnajajnbmlihaaZCXx26
import Derived.Test.YtmnajajnbmlihaaZCXx3
import Derived.Test.YtmnajajnbmlihaaZCXx31
import Derived.Test.YtmnajajnbmlihaaZCXx36
import Derived.Test.YtmnajajnbmlihaaZCXx38
import Derived.Test.YtmnajajnbmlihaaZCXx39
import Derived.Test.YtmnajajnbmlihaaZCXx6
import Derived.Test.YtmnajajnbmlihaaZCXx8
import Derived.Test.YtmnajajnbmlihaaZCXx9
import Derived.Deep.OwnRows
namespace Go.Proofs.Ytmnajajnbmlihaa.X
open Go.RowKit Go.Proofs.YtmnajajnbmlihaaW.PrintWords Go.Proofs.YtmnajajnbmlihaaW.PrintLast Go.Proofs.YtmnajajnbmlihaaW.PrintMore
attribute [local go_sem] max2_int min2_int max_two min_two max_three min_three max_four min_four
open Go.Proofs.YtmnajajnbmlihaaW.HandWords
set_option linter.unusedVariables false
set_option linter.unusedSimpArgs false
namespace Hch
theorem lit_run {P : Program} {ops : Array Oper} {rest : List Oper} {o : Oper} {a : Act} {Q : Exit → Act → World → Prop} {N : Tmp} {cs : List Value} {e : TypeId} {W : World} (hgd : o.guard = none) (_hd : o.dst = some N)
    (hrun : (execOp a.eval o).run P W = .ok (.value (.slice (some ⟨W.heap.size, 0, none⟩) 1 1)) (W.alloc (.cells cs.toArray e)))
    (h : ∀ (g : Nat) (w1 : World), g = W.heap.size → w1.heap[g]? = some (.cells cs.toArray e (0, 0)) → Below W.heap.size W w1 → wpList P ops Q rest (a.put o.dst (.slice (some ⟨g, 0, none⟩) 1 1)) w1) : wpList P ops Q (o :: rest) a W :=
  Kd.event_run hgd hrun (h _ _ rfl (blk_new _ _) (below_alloc (Below.refl _ _) _))
theorem one_hunk {W : World} {g : Nat} {a0 a1 a2 a3 : Int} {A0 : Option Addr} {c0 : Nat} {l0 : List S46} (hb : W.heap[g]? = some (.cells #[.int .i64 a0, .int .i64 a1, .int .i64 a2, .int .i64 a3, .slice A0 l0.length c0] 39 (0, 0))) (hr : Kd.C k46 W A0 l0.length l0) (hc : l0.length ≤ c0) :
    Kd.C k39 W (some ⟨g, 0, none⟩) 1 [(⟨a0, a1, a2, a3, l0⟩ : S39)] := by
  refine ⟨rfl, by decide, fun _ => ⟨_, rfl, fun j p hj => ?_⟩⟩
  match j, hj with
  | 0, hj =>
    simp only [List.getElem?_cons_zero, Option.some.injEq] at hj
    subst hj
    refine ⟨[.int .i64 a0, .int .i64 a1, .int .i64 a2, .int .i64 a3, .slice A0 l0.length c0], rfl, ⟨[_], _, rfl, rfl, [_], _, rfl, rfl, [_], _, rfl, rfl, [_], _, rfl, rfl, ⟨A0, c0, rfl, hc, hr⟩⟩, fun i u hu => ?_⟩
    have h1 := blk_cell hb i
    rw [show (⟨g, 0, none⟩ : Addr).add (0 * (k39).sz + i) = ⟨g, i, none⟩ from by simp only [Addr.add, Nat.zero_mul, Nat.zero_add]; split <;> simp_all]
    rw [h1]
    simpa using hu
  | j + 1, hj => simp at hj
/-- one line of the hunk that came back is spoilt -/
theorem spoil_one {W : World} {base : Nat} {ok : Nat → Prop} {A7 : Option Addr} {n c7 : Nat} {ys : List S46} (h : Kd.R k46 46 W base ok (.slice A7 n c7) ys) (z : Int) (h0 : 0 ≤ z) (h1 : z < n) (t : ByteArray) :
    ∃ gb : Nat, A7 = some ⟨gb, 0, none⟩ ∧ ok gb ∧ base ≤ gb ∧ (∃ s, W.cell? ⟨gb, z.toNat * 2 + 1, none⟩ = some (.string s)) ∧ W.frozen? ⟨gb, z.toNat * 2 + 1, none⟩ = false ∧ ∃ ys', Kd.R k46 46 (W.setCell ⟨gb, z.toNat * 2 + 1, none⟩ (.string t)) base ok (.slice A7 n c7) ys' := by
  have hn : n = ys.length := (Kd.R_reads' h).1
  obtain ⟨gb, cb, e, hlc⟩ := R_form h (by omega)
  injection e with e1 e2 e3
  subst e1 e2 e3
  obtain ⟨ce, hcel, hMe, hcce, hfre⟩ := Kd.R_elem h z46 z h0 h1
  obtain rfl := k46_openM hMe
  have hs := Kd.R_seg h z h0 h1 (seg := [.string t]) (j := 1) hcel hcce (show 2 ≤ 2 from by decide) (x' := (⟨(ys.getD z.toNat z46).f0, t⟩ : S46)) (okp := fun _ => False) (k46_mkM _ _ _ (⟨(ys.getD z.toNat z46).f0, t⟩ : S46)) (fun _ hk => hk.elim)
  have hs2 : _ ∧ _ := hs
  have e : W.setCells gb (z.toNat * 2 + 1) [.string t] = W.setCell ⟨gb, z.toNat * 2 + 1, none⟩ (.string t) := rfl
  rw [show (k46).sz = 2 from rfl, e] at hs2
  have hgb : (Value.slice (some (⟨gb, 0, none⟩ : Addr)) ys.length c7).ownBlock = some gb := by simp [Value.ownBlock]
  exact ⟨gb, rfl, h.1 gb hgb, Kd.R_base h gb hgb, ⟨_, hcce 1 _ rfl⟩, hfre 1, _, hs2.1⟩
def T2 : Bool × List (List Nat × List Nat) := (true, [([], []), ([0], [0]), ([], []), ([2, 1], [2]), ([1, 3, 0, 1], [1]), ([3, 4, 0, 1, 2, 3, 4], [3])])
def B2 : List Nat := [0, 1, 0, 7, 15, 31]
theorem tab2 : rtab .any (opsOf Try.f4 2) = T2 := by kernel_rfl
theorem bits2 : waitsOk T2.2 B2 = true := by kernel_rfl
def T3 : Bool × List (List Nat × List Nat) := (true, [([], []), ([0], [0]), ([], []), ([2, 1], [2]), ([1, 3], [1, 3]), ([4, 3], [4]), ([5], [5]), ([5], [5]), ([7, 5, 5], [5, 7]), ([6, 8, 8, 5], [5, 6, 8]), ([9, 5], [5, 9]), ([5, 10], [5, 10]), ([11, 9], [11]), ([12], [12]), ([12], [12]), ([14, 12, 12], [12, 14]), ([13, 15, 15, 12], [12, 13, 15]), ([16, 12], [12, 16]), ([12, 17], [12, 17])])
def B3 : List Nat := [0, 1, 0, 7, 15, 31, 63, 63, 191, 511, 1023, 2047, 4095, 8191, 8191, 24575, 65535, 131071, 262143]
theorem tab3 : rtab .any (opsOf Try.f4 3) = T3 := by kernel_rfl
theorem bits3 : waitsOk T3.2 B3 = true := by kernel_rfl
def T6 : Bool × List (List Nat × List Nat) := (true, [([], []), ([], []), ([1], [1]), ([0, 2, 2], [0, 2]), ([3], [3])])
def B6 : List Nat := [0, 0, 2, 7, 15]
theorem tab6 : rtab .any (opsOf Try.f4 6) = T6 := by kernel_rfl
theorem bits6 : waitsOk T6.2 B6 = true := by kernel_rfl
end Hch
open Hch
set_option maxHeartbeats 8000000 in
set_option maxRecDepth 100000 in
theorem redlinelaw11_HunksChecks.walk (k : Nat) (a0 a1 a2 a3 : Int) (A0 : Option Addr) (c0 : Nat) (l0 : List S46) (xo xn : List ByteArray) (e : Int) (b0 b1 b2 b3 : Int) (y : List S46) (w : World) (hr0 : Kd.C k46 w A0 l0.length l0) (hc0 : l0.length ≤ c0)
    (hC : redlineref11_Copy.f k [(⟨a0, a1, a2, a3, l0⟩ : S39)] = some [(⟨a0, a1, a2, a3, l0⟩ : S39)]) (hO1 : hunks_Old.f k a0 a1 a2 a3 l0 = some xo) (hN1 : hunks_New.f k a0 a1 a2 a3 l0 = some xn) (hO2 : redlineref11_Old.f k a0 a1 a2 a3 l0 = some xo) (hN2 : redlineref11_New.f k a0 a1 a2 a3 l0 = some xn)
    (hK1 : hunks_Check.f k a0 a1 a2 a3 l0 = some e) (hK2 : redlineref11_Check.f k a0 a1 a2 a3 l0 = some e) (hS1 : redlineref01_SameStrings.f k xo xo = some true) (hS2 : redlineref01_SameStrings.f k xn xn = some true)
    (hI1 : hunks_Invert.f a0 a1 a2 a3 l0 = some (b0, b1, b2, b3, y)) (hI2 : redlineref11_Invert.f k a0 a1 a2 a3 l0 = some (b0, b1, b2, b3, y)) (hS3 : redlineref11_Same.f k b0 b1 b2 b3 y b0 b1 b2 b3 y = some true) (hS4 : redlineref11_Same.f k a0 a1 a2 a3 l0 a0 a1 a2 a3 l0 = some true) (hy : y.length ≤ 1000000000000000) :
    Calls Try.prog 4 #[.agg #[.int .i64 a0, .int .i64 a1, .int .i64 a2, .int .i64 a3, .slice A0 l0.length c0]] w fun e w' => e = .returned (.bool true) ∧ Below w.heap.size w w' := by
  have HR0 := Aside0.mk hr0
  have HC0 := Aside0.mk hc0
  have HC := Aside0.mk hC
  have HO1 := Aside0.mk hO1
  have HN1 := Aside0.mk hN1
  have HO2 := Aside0.mk hO2
  have HN2 := Aside0.mk hN2
  have HK1 := Aside0.mk hK1
  have HK2 := Aside0.mk hK2
  have HS1 := Aside0.mk hS1
  have HS2 := Aside0.mk hS2
  have HI1 := Aside0.mk hI1
  have HI2 := Aside0.mk hI2
  have HS3 := Aside0.mk hS3
  have HS4 := Aside0.mk hS4
  have HY := Aside0.mk hy
  clear hr0 hc0 hC hO1 hN1 hO2 hN2 hK1 hK2 hS1 hS2 hI1 hI2 hS3 hS4 hy
  have HB := Aside0.mk (Below.refl w.heap.size w)
  have hee : (e != e) = false := bne_self_eq_false e
  go_enter Try.func4, Try.ntmps4
  go_upto_region 1 with ((with_reducible refine gate_dst (N := 1) rfl ?_); refine box_event ?hg (N := 1) ?hd (cs := #[.int .i64 a0, .int .i64 a1, .int .i64 a2, .int .i64 a3, .slice A0 l0.length c0]) (t := 39) ?hr ?_; (case hd => rfl); (case hg => rfl); (case hr => first | (go_simp; done) | (go_simp; rfl)); intro g1 hg w1 hbox hb; have n1_ := Aside0.mk (below_step HB.out hb); clear HB; have HB := n1_; clear n1_; have BK1 := Aside0.mk hbox; clear hbox hg hb; have q0 := (blk_cell BK1.out 0).trans (show _ = some (Value.int .i64 a0) from rfl); have q1 := (blk_cell BK1.out 1).trans (show _ = some (Value.int .i64 a1) from rfl); have q2 := (blk_cell BK1.out 2).trans (show _ = some (Value.int .i64 a2) from rfl); have q3 := (blk_cell BK1.out 3).trans (show _ = some (Value.int .i64 a3) from rfl); have q4 := (blk_cell BK1.out 4).trans (show _ = some (Value.slice A0 l0.length c0) from rfl))
  go_upto_region 2 with (first | ((with_reducible refine gate_dst (N := 9) rfl ?_); refine Hch.lit_run ?hg (N := 9) ?hd (cs := [.int .i64 a0, .int .i64 a1, .int .i64 a2, .int .i64 a3, .slice A0 l0.length c0]) (e := 39) ?hr ?_; (case hd => rfl); (case hg => rfl); (case hr => first | (go_simp; done) | (go_simp; rfl)); intro g9 w2 hg hbox hb; have n1_ := Aside0.mk (below_step HB.out hb); have n2_ := Aside0.mk (blk_below BK1.out hb); clear HB BK1 q0 q1 q2 q3 q4; have HB := n1_; have BK1 := n2_; clear n1_ n2_; have HL := Aside0.mk (Hch.one_hunk hbox (Kd.C_below HR0.out HB.out) HC0.out); clear hbox hg hb) | (go_at_call 13; refine (redlineref11_Copy.calls k _ _ _ _ w2 HL.out (Nat.le_refl 1) HC.out).mono ?_; rintro e' w3 ⟨v3, rfl, hs3, hb⟩; have n1_ := Aside0.mk (below_step HB.out hb); have n2_ := Aside0.mk (blk_below BK1.out hb); clear HB BK1 HL; have HB := n1_; have BK1 := n2_; clear n1_ n2_ hb; obtain ⟨A3, c3, e3, h3, r3⟩ := Kd.S_reads hs3; subst e3; obtain ⟨ad3, A4, c4, e4, x0, x1, x2, x3, x4, h4, r4⟩ := at_T39 r3 0 (by omega) (by simp); cases e4; rw [show ad3.add ((0 : Int).toNat * 5) = ad3 from by simp [Addr.add]] at x0 x1 x2 x3 x4; replace x0 : w3.cell? ad3 = some (.int .i64 a0) := x0; replace x1 : w3.cell? ⟨ad3.block, ad3.off + 1, none⟩ = some (.int .i64 a1) := x1; replace x2 : w3.cell? ⟨ad3.block, ad3.off + 2, none⟩ = some (.int .i64 a2) := x2; replace x3 : w3.cell? ⟨ad3.block, ad3.off + 3, none⟩ = some (.int .i64 a3) := x3; replace x4 : w3.cell? ⟨ad3.block, ad3.off + 4, none⟩ = some (.slice A4 l0.length c4) := x4; replace r4 : Kd.C k46 w3 A4 l0.length l0 := r4; replace h4 : l0.length ≤ c4 := h4; clear hs3 h3 r3; have HR4 := Aside0.mk r4; have HC4 := Aside0.mk h4; have B3 := Aside0.mk (Below.refl w3.heap.size w3); clear r4 h4) | ((with_reducible refine gate_dst (N := 3) rfl ?_); refine box_event ?hg (N := 3) ?hd (cs := #[.int .i64 0, .int .i64 0, .int .i64 0, .int .i64 0, .slice none 0 0]) (t := 39) ?hr ?_; (case hd => rfl); (case hg => rfl); (case hr => first | (go_simp; done) | (go_simp; rfl)); intro g3 hg w4 hbox hb; have NE := Aside0.mk (show g1 ≠ g3 by rw [hg]; have := blk_lt BK1.out; omega); have G3 := Aside0.mk (by rw [hg]; exact HB.out.size : w.heap.size ≤ g3); have G33 := Aside0.mk (Nat.le_of_eq hg.symm : w3.heap.size ≤ g3); have n1_ := Aside0.mk (below_step HB.out hb); have n2_ := Aside0.mk (blk_below BK1.out hb); have n3_ := Aside0.mk (below_step B3.out hb); clear HB BK1 B3; have HB := n1_; have BK1 := n2_; have B3 := n3_; clear n1_ n2_ n3_; have BK3 := Aside0.mk hbox; replace x0 := (hb.cell (World.block_lt_of_cell? _ _ x0)).trans x0; replace x1 := (hb.cell (World.block_lt_of_cell? _ _ x1)).trans x1; replace x2 := (hb.cell (World.block_lt_of_cell? _ _ x2)).trans x2; replace x3 := (hb.cell (World.block_lt_of_cell? _ _ x3)).trans x3; replace x4 := (hb.cell (World.block_lt_of_cell? _ _ x4)).trans x4; clear hbox hg hb; have o0 := (blk_cell BK3.out 0).trans (show _ = some (Value.int .i64 0) from rfl); have o1 := (blk_cell BK3.out 1).trans (show _ = some (Value.int .i64 0) from rfl); have o2 := (blk_cell BK3.out 2).trans (show _ = some (Value.int .i64 0) from rfl); have o3 := (blk_cell BK3.out 3).trans (show _ = some (Value.int .i64 0) from rfl); have o4 := (blk_cell BK3.out 4).trans (show _ = some (Value.slice none 0 0) from rfl); have k0 := blk_frozen BK3.out 0; have k1 := blk_frozen BK3.out 1; have k2 := blk_frozen BK3.out 2; have k3 := blk_frozen BK3.out 3; have k4 := blk_frozen BK3.out 4) | ((with_reducible refine gate_store (t := 39) (p := 3) rfl ?_); refine store_event (t := 39) (p := 3) (v := ?vo_s3) (w1 := (((((w4.setCell ⟨g3, 0, none⟩ (.int .i64 a0)).setCell ⟨g3, 1, none⟩ (.int .i64 a1)).setCell ⟨g3, 2, none⟩ (.int .i64 a2)).setCell ⟨g3, 3, none⟩ (.int .i64 a3)).setCell ⟨g3, 4, none⟩ (.slice A4 l0.length c4))) ?hg ?ho ?hn ?hr ?_; (case ho => rfl); (case hg => rfl); (case hn => rfl); (case hr => first | (go_simp; done) | (go_simp; rfl)); intro w5 hw; have n0_ : Aside0 (w5.heap[g3]? = some (.cells #[.int .i64 a0, .int .i64 a1, .int .i64 a2, .int .i64 a3, .slice A4 l0.length c4] 39 (0, 0))) := ⟨by rw [hw]; exact blk_put (blk_put (blk_put (blk_put (blk_put BK3.out 0 _ rfl) 1 _ rfl) 2 _ rfl) 3 _ rfl) 4 _ rfl⟩; have n1_ : Aside0 (w5.heap[g1]? = some (.cells #[.int .i64 a0, .int .i64 a1, .int .i64 a2, .int .i64 a3, .slice A0 l0.length c0] 39 (0, 0))) := ⟨by rw [hw]; exact blk_far (blk_far (blk_far (blk_far (blk_far BK1.out NE.out _) NE.out _) NE.out _) NE.out _) NE.out _⟩; have n2_ : Aside0 (Below w.heap.size w w5) := ⟨by rw [hw]; exact ((((HB.out.setCell G3.out _).setCell G3.out _).setCell G3.out _).setCell G3.out _).setCell G3.out _⟩; have n3_ : Aside0 (Below w3.heap.size w3 w5) := ⟨by rw [hw]; exact ((((B3.out.setCell G33.out _).setCell G33.out _).setCell G33.out _).setCell G33.out _).setCell G33.out _⟩; clear HB BK1 BK3 B3 hw x0 x1 x2 x3 x4 o0 o1 o2 o3 o4 k0 k1 k2 k3 k4; have BK3 := n0_; have BK1 := n1_; have HB := n2_; have B3 := n3_; clear n0_ n1_ n2_ n3_))
  try go_wp2
  have n_BK1 := Aside0.mk (blk_drew BK1.out)
  have n_BK3 := Aside0.mk (blk_drew BK3.out)
  have n_HB := Aside0.mk (below_drew1 HB.out)
  have n_B3 := Aside0.mk (below_drew1 B3.out)
  clear BK1 BK3 HB B3
  have BK1 := n_BK1
  have BK3 := n_BK3
  have HB := n_HB
  have B3 := n_B3
  clear n_BK1 n_BK3 n_HB n_B3
  refine start_ (n := 6) (S := fun w' => w'.cell? ⟨g3, 0, none⟩ = some (Value.int .i64 a0) ∧ w'.cell? ⟨g3, 1, none⟩ = some (Value.int .i64 a1) ∧ w'.cell? ⟨g3, 2, none⟩ = some (Value.int .i64 a2) ∧ w'.cell? ⟨g3, 3, none⟩ = some (Value.int .i64 a3) ∧ w'.cell? ⟨g3, 4, none⟩ = some (Value.slice A4 l0.length c4)) (ds := []) #[false, false, false, false, false, false] (by kernel_rfl) rfl rfl ⟨(blk_cell BK3.out 0).trans rfl, (blk_cell BK3.out 1).trans rfl, (blk_cell BK3.out 2).trans rfl, (blk_cell BK3.out 3).trans rfl, (blk_cell BK3.out 4).trans rfl⟩ (fun hHeld => ?_)
  refine with_tabW Hch.tab2 Hch.bits2 (fun HT_ HW_ => ?_)
  generalize w5.drew = w_2 at BK1 BK3 HB B3 hHeld ⊢
  refine take_ (i := 0) (N := some 13) (v := ?_) (a' := ?_) #[true, false, false, false, false, false] rfl rfl (take_ofW HT_.out HW_.out (by kernel_rfl)) (fun _ _ _ h => h) (Or.inl ⟨by rfl, ?_⟩) hHeld ?_ ?_
  rotate_left
  · rintro w' ⟨s0, s1, s2, s3, s4⟩
    go_simp
    with_reducible rfl
  rotate_left
  · simp only [Act.put, List.setIfInBounds_toArray, List.set_cons_zero, List.set_cons_succ, i64_w, i32_w]
    rfl
  refine take_ (i := 2) (N := some 15) (v := ?_) (a' := ?_) #[true, false, true, false, false, false] rfl rfl (take_ofW HT_.out HW_.out (by kernel_rfl)) (fun _ _ _ h => h) (Or.inl ⟨by rfl, ?_⟩) hHeld ?_ ?_
  rotate_left
  · rintro w' ⟨s0, s1, s2, s3, s4⟩
    go_simp
    with_reducible rfl
  rotate_left
  · simp only [Act.put, List.setIfInBounds_toArray, List.set_cons_zero, List.set_cons_succ, i64_w, i32_w]
    rfl
  refine one_ (i := 1) (N := some 14) #[true, true, true, false, false, false] rfl rfl (one_of HT_.out (by kernel_rfl)) (by decide) (fun K hK => ?_)
  refine goes_ Try.func14 (by kernel_rfl) rfl #[.agg #[.int .i64 a0, .int .i64 a1, .int .i64 a2, .int .i64 a3, .slice A4 l0.length c4]] (by rfl) rfl rfl (by (try simp only [List.map_toArray, List.map_cons, List.map_nil]); first | done | rfl) ?_
  refine (hunks_Old.calls k a0 a1 a2 a3 _ _ l0 xo _ (Kd.C_below HR4.out B3.out) HC4.out HO1.out).mono ?_
  rintro e' w_2_1 ⟨_, rfl, ho, hb⟩
  obtain ⟨Ao, co, eeo, hlo, rro⟩ := Kd.R_reads ho
  subst eeo
  have HRo := Aside0.mk rro
  have HCo := Aside0.mk hlo
  have Zo := Aside0.mk (Below.refl w_2_1.heap.size w_2_1)
  clear rro hlo ho
  refine ⟨_, rfl, ?_⟩
  have n_HB := Aside0.mk (below_step HB.out hb)
  have n_B3 := Aside0.mk (below_step B3.out hb)
  have n_BK1 := Aside0.mk (blk_below BK1.out hb)
  have n_BK3 := Aside0.mk (blk_below BK3.out hb)
  clear hb HB B3 BK1 BK3
  have HB := n_HB
  have B3 := n_B3
  have BK1 := n_BK1
  have BK3 := n_BK3
  clear n_HB n_B3 n_BK1 n_BK3
  refine hK.out _ _ ⟨(blk_cell BK3.out 0).trans rfl, (blk_cell BK3.out 1).trans rfl, (blk_cell BK3.out 2).trans rfl, (blk_cell BK3.out 3).trans rfl, (blk_cell BK3.out 4).trans rfl⟩ (fun hHeld => ?_)
  clear hK K
  refine norm_ (a' := ?_) ?_ ?_
  rotate_left
  · show Act.put _ (some 14) _ = _
    simp only [Act.put, List.setIfInBounds_toArray, List.set_cons_zero, List.set_cons_succ, i64_w, i32_w]
    rfl
  refine one_ (i := 3) (N := some 16) #[true, true, true, true, false, false] rfl rfl (one_of HT_.out (by kernel_rfl)) (by decide) (fun K hK => ?_)
  refine goes_ Try.func15 (by kernel_rfl) rfl #[.agg #[.int .i64 a0, .int .i64 a1, .int .i64 a2, .int .i64 a3, .slice A4 l0.length c4]] (by rfl) rfl rfl (by (try simp only [List.map_toArray, List.map_cons, List.map_nil]); first | done | rfl) ?_
  refine (hunks_New.calls k a0 a1 a2 a3 _ _ l0 xn _ (Kd.C_below HR4.out B3.out) HC4.out HN1.out).mono ?_
  rintro e' w_2_3 ⟨_, rfl, ho, hb⟩
  obtain ⟨An, cn, een, hln, rrn⟩ := Kd.R_reads ho
  subst een
  have HRn := Aside0.mk rrn
  have HCn := Aside0.mk hln
  have Zn := Aside0.mk (Below.refl w_2_3.heap.size w_2_3)
  clear rrn hln ho
  refine ⟨_, rfl, ?_⟩
  have n_HB := Aside0.mk (below_step HB.out hb)
  have n_B3 := Aside0.mk (below_step B3.out hb)
  have n_BK1 := Aside0.mk (blk_below BK1.out hb)
  have n_BK3 := Aside0.mk (blk_below BK3.out hb)
  have n_Zo := Aside0.mk (below_step Zo.out hb)
  clear hb HB B3 BK1 BK3 Zo
  have HB := n_HB
  have B3 := n_B3
  have BK1 := n_BK1
  have BK3 := n_BK3
  have Zo := n_Zo
  clear n_HB n_B3 n_BK1 n_BK3 n_Zo
  refine hK.out _ _ ⟨(blk_cell BK3.out 0).trans rfl, (blk_cell BK3.out 1).trans rfl, (blk_cell BK3.out 2).trans rfl, (blk_cell BK3.out 3).trans rfl, (blk_cell BK3.out 4).trans rfl⟩ (fun hHeld => ?_)
  clear hK K
  refine norm_ (a' := ?_) ?_ ?_
  rotate_left
  · show Act.put _ (some 16) _ = _
    simp only [Act.put, List.setIfInBounds_toArray, List.set_cons_zero, List.set_cons_succ, i64_w, i32_w]
    rfl
  refine pure_ (i := 4) (N := some 4) (v := ?_) (a' := ?_) #[true, true, true, true, true, false] rfl rfl (any_of HT_.out (by kernel_rfl)) (fun _ _ _ h => h) (Or.inl ⟨by rfl, ?_⟩) ?_ ?_
  rotate_left
  · intro w'
    go_simp
    with_reducible rfl
  rotate_left
  · simp only [Act.put, List.setIfInBounds_toArray, List.set_cons_zero, List.set_cons_succ, i64_w, i32_w]
    rfl
  refine pure_ (i := 5) (N := some 5) (v := ?_) (a' := ?_) #[true, true, true, true, true, true] rfl rfl (any_of HT_.out (by kernel_rfl)) (fun _ _ _ h => h) (Or.inl ⟨by rfl, ?_⟩) ?_ ?_
  rotate_left
  · intro w'
    go_simp
    with_reducible rfl
  rotate_left
  · simp only [Act.put, List.setIfInBounds_toArray, List.set_cons_zero, List.set_cons_succ, i64_w, i32_w]
    rfl
  refine done_ (done_of HT_.out (by kernel_rfl)) ?_
  try go_wp2
  have n_BK1 := Aside0.mk (blk_drew BK1.out)
  have n_BK3 := Aside0.mk (blk_drew BK3.out)
  have n_HB := Aside0.mk (below_drew1 HB.out)
  have n_B3 := Aside0.mk (below_drew1 B3.out)
  have n_Zo := Aside0.mk (below_drew1 Zo.out)
  have n_Zn := Aside0.mk (below_drew1 Zn.out)
  clear BK1 BK3 HB B3 Zo Zn
  have BK1 := n_BK1
  have BK3 := n_BK3
  have HB := n_HB
  have B3 := n_B3
  have Zo := n_Zo
  have Zn := n_Zn
  clear n_BK1 n_BK3 n_HB n_B3 n_Zo n_Zn
  refine start_ (n := 19) (S := fun w' => w'.cell? ⟨g3, 0, none⟩ = some (Value.int .i64 a0) ∧ w'.cell? ⟨g3, 1, none⟩ = some (Value.int .i64 a1) ∧ w'.cell? ⟨g3, 2, none⟩ = some (Value.int .i64 a2) ∧ w'.cell? ⟨g3, 3, none⟩ = some (Value.int .i64 a3) ∧ w'.cell? ⟨g3, 4, none⟩ = some (Value.slice A4 l0.length c4) ∧ w'.cell? ⟨g1, 0, none⟩ = some (Value.int .i64 a0) ∧ w'.cell? ⟨g1, 1, none⟩ = some (Value.int .i64 a1) ∧ w'.cell? ⟨g1, 2, none⟩ = some (Value.int .i64 a2) ∧ w'.cell? ⟨g1, 3, none⟩ = some (Value.int .i64 a3) ∧ w'.cell? ⟨g1, 4, none⟩ = some (Value.slice A0 l0.length c0)) (ds := []) #[false, false, false, false, false, false, false, false, false, false, false, false, false, false, false, false, false, false, false] (by kernel_rfl) rfl rfl ⟨(blk_cell BK3.out 0).trans rfl, (blk_cell BK3.out 1).trans rfl, (blk_cell BK3.out 2).trans rfl, (blk_cell BK3.out 3).trans rfl, (blk_cell BK3.out 4).trans rfl, (blk_cell BK1.out 0).trans rfl, (blk_cell BK1.out 1).trans rfl, (blk_cell BK1.out 2).trans rfl, (blk_cell BK1.out 3).trans rfl, (blk_cell BK1.out 4).trans rfl⟩ (fun hHeld => ?_)
  refine with_tabW Hch.tab3 Hch.bits3 (fun HT_ HW_ => ?_)
  generalize w_2_3.drew = w_3 at BK1 BK3 HB B3 Zo Zn hHeld ⊢
  refine take_ (i := 0) (N := some 17) (v := ?_) (a' := ?_) #[true, false, false, false, false, false, false, false, false, false, false, false, false, false, false, false, false, false, false] rfl rfl (take_ofW HT_.out HW_.out (by kernel_rfl)) (fun _ _ _ h => h) (Or.inl ⟨by rfl, ?_⟩) hHeld ?_ ?_
  rotate_left
  · rintro w' ⟨s0, s1, s2, s3, s4, s5, s6, s7, s8, s9⟩
    go_simp
    with_reducible rfl
  rotate_left
  · simp only [Act.put, List.setIfInBounds_toArray, List.set_cons_zero, List.set_cons_succ, i64_w, i32_w]
    rfl
  refine take_ (i := 2) (N := some 19) (v := ?_) (a' := ?_) #[true, false, true, false, false, false, false, false, false, false, false, false, false, false, false, false, false, false, false] rfl rfl (take_ofW HT_.out HW_.out (by kernel_rfl)) (fun _ _ _ h => h) (Or.inl ⟨by rfl, ?_⟩) hHeld ?_ ?_
  rotate_left
  · rintro w' ⟨s0, s1, s2, s3, s4, s5, s6, s7, s8, s9⟩
    go_simp
    with_reducible rfl
  rotate_left
  · simp only [Act.put, List.setIfInBounds_toArray, List.set_cons_zero, List.set_cons_succ, i64_w, i32_w]
    rfl
  refine one_ (i := 1) (N := some 18) #[true, true, true, false, false, false, false, false, false, false, false, false, false, false, false, false, false, false, false] rfl rfl (one_of HT_.out (by kernel_rfl)) (by decide) (fun K hK => ?_)
  refine goes_ Try.func16 (by kernel_rfl) rfl #[.agg #[.int .i64 a0, .int .i64 a1, .int .i64 a2, .int .i64 a3, .slice A4 l0.length c4]] (by rfl) rfl rfl (by (try simp only [List.map_toArray, List.map_cons, List.map_nil]); first | done | rfl) ?_
  refine (hunks_Check.calls k a0 a1 a2 a3 _ _ l0 e _ (Kd.C_below HR4.out B3.out) HC4.out HK1.out).mono ?_
  rintro e' w_3_1 ⟨rfl, hb⟩
  refine ⟨_, rfl, ?_⟩
  have n_HB := Aside0.mk (below_step HB.out hb)
  have n_B3 := Aside0.mk (below_step B3.out hb)
  have n_BK1 := Aside0.mk (blk_below BK1.out hb)
  have n_BK3 := Aside0.mk (blk_below BK3.out hb)
  have n_Zo := Aside0.mk (below_step Zo.out hb)
  have n_Zn := Aside0.mk (below_step Zn.out hb)
  clear hb HB B3 BK1 BK3 Zo Zn
  have HB := n_HB
  have B3 := n_B3
  have BK1 := n_BK1
  have BK3 := n_BK3
  have Zo := n_Zo
  have Zn := n_Zn
  clear n_HB n_B3 n_BK1 n_BK3 n_Zo n_Zn
  refine hK.out _ _ ⟨(blk_cell BK3.out 0).trans rfl, (blk_cell BK3.out 1).trans rfl, (blk_cell BK3.out 2).trans rfl, (blk_cell BK3.out 3).trans rfl, (blk_cell BK3.out 4).trans rfl, (blk_cell BK1.out 0).trans rfl, (blk_cell BK1.out 1).trans rfl, (blk_cell BK1.out 2).trans rfl, (blk_cell BK1.out 3).trans rfl, (blk_cell BK1.out 4).trans rfl⟩ (fun hHeld => ?_)
  clear hK K
  refine norm_ (a' := ?_) ?_ ?_
  rotate_left
  · show Act.put _ (some 18) _ = _
    simp only [Act.put, List.setIfInBounds_toArray, List.set_cons_zero, List.set_cons_succ, i64_w, i32_w]
    rfl
  refine one_ (i := 3) (N := some 20) #[true, true, true, true, false, false, false, false, false, false, false, false, false, false, false, false, false, false, false] rfl rfl (one_of HT_.out (by kernel_rfl)) (by decide) (fun K hK => ?_)
  refine goes_ Try.func17 (by kernel_rfl) rfl #[.agg #[.int .i64 a0, .int .i64 a1, .int .i64 a2, .int .i64 a3, .slice A0 l0.length c0]] (by rfl) rfl rfl (by (try simp only [List.map_toArray, List.map_cons, List.map_nil]); first | done | rfl) ?_
  refine (redlineref11_Check.calls k a0 a1 a2 a3 _ _ l0 e _ (Kd.C_below HR0.out HB.out) HC0.out HK2.out).mono ?_
  rintro e' w_3_3 ⟨rfl, hb⟩
  refine ⟨_, rfl, ?_⟩
  have n_HB := Aside0.mk (below_step HB.out hb)
  have n_B3 := Aside0.mk (below_step B3.out hb)
  have n_BK1 := Aside0.mk (blk_below BK1.out hb)
  have n_BK3 := Aside0.mk (blk_below BK3.out hb)
  have n_Zo := Aside0.mk (below_step Zo.out hb)
  have n_Zn := Aside0.mk (below_step Zn.out hb)
  clear hb HB B3 BK1 BK3 Zo Zn
  have HB := n_HB
  have B3 := n_B3
  have BK1 := n_BK1
  have BK3 := n_BK3
  have Zo := n_Zo
  have Zn := n_Zn
  clear n_HB n_B3 n_BK1 n_BK3 n_Zo n_Zn
  refine hK.out _ _ ⟨(blk_cell BK3.out 0).trans rfl, (blk_cell BK3.out 1).trans rfl, (blk_cell BK3.out 2).trans rfl, (blk_cell BK3.out 3).trans rfl, (blk_cell BK3.out 4).trans rfl, (blk_cell BK1.out 0).trans rfl, (blk_cell BK1.out 1).trans rfl, (blk_cell BK1.out 2).trans rfl, (blk_cell BK1.out 3).trans rfl, (blk_cell BK1.out 4).trans rfl⟩ (fun hHeld => ?_)
  clear hK K
  refine norm_ (a' := ?_) ?_ ?_
  rotate_left
  · show Act.put _ (some 20) _ = _
    simp only [Act.put, List.setIfInBounds_toArray, List.set_cons_zero, List.set_cons_succ, i64_w, i32_w]
    rfl
  refine pure_ (i := 4) (N := some 21) (v := ?_) (a' := ?_) #[true, true, true, true, true, false, false, false, false, false, false, false, false, false, false, false, false, false, false] rfl rfl (any_of HT_.out (by kernel_rfl)) (fun _ _ _ h => h) (Or.inl ⟨by rfl, ?_⟩) ?_ ?_
  rotate_left
  · intro w'
    go_simp
    with_reducible rfl
  rotate_left
  · simp only [Act.put, List.setIfInBounds_toArray, List.set_cons_zero, List.set_cons_succ, i64_w, i32_w, hee]
    rfl
  refine pure_ (i := 5) (N := some 22) (v := ?_) (a' := ?_) #[true, true, true, true, true, true, false, false, false, false, false, false, false, false, false, false, false, false, false] rfl rfl (any_of HT_.out (by kernel_rfl)) (fun _ _ _ h => h) (Or.inl ⟨by rfl, ?_⟩) ?_ ?_
  rotate_left
  · intro w'
    go_simp
    with_reducible rfl
  rotate_left
  · simp only [Act.put, List.setIfInBounds_toArray, List.set_cons_zero, List.set_cons_succ, i64_w, i32_w]
    rfl
  refine pure_ (i := 6) (N := some 23) (v := ?_) (a' := ?_) #[true, true, true, true, true, true, true, false, false, false, false, false, false, false, false, false, false, false, false] rfl rfl (any_of HT_.out (by kernel_rfl)) (fun _ _ _ h => h) (Or.inl ⟨by rfl, ?_⟩) ?_ ?_
  rotate_left
  · intro w'
    go_simp
    with_reducible rfl
  rotate_left
  · simp only [Act.put, List.setIfInBounds_toArray, List.set_cons_zero, List.set_cons_succ, i64_w, i32_w]
    rfl
  refine take_ (i := 7) (N := some 24) (v := ?_) (a' := ?_) #[true, true, true, true, true, true, true, true, false, false, false, false, false, false, false, false, false, false, false] rfl rfl (take_ofW HT_.out HW_.out (by kernel_rfl)) (fun _ _ _ h => h) (Or.inl ⟨by rfl, ?_⟩) hHeld ?_ ?_
  rotate_left
  · rintro w' ⟨s0, s1, s2, s3, s4, s5, s6, s7, s8, s9⟩
    go_simp
    with_reducible rfl
  rotate_left
  · simp only [Act.put, List.setIfInBounds_toArray, List.set_cons_zero, List.set_cons_succ, i64_w, i32_w]
    rfl
  refine one_ (i := 8) (N := some 25) #[true, true, true, true, true, true, true, true, true, false, false, false, false, false, false, false, false, false, false] rfl rfl (one_of HT_.out (by kernel_rfl)) (by decide) (fun K hK => ?_)
  refine goes_ Try.func18 (by kernel_rfl) rfl #[.agg #[.int .i64 a0, .int .i64 a1, .int .i64 a2, .int .i64 a3, .slice A0 l0.length c0]] (by rfl) rfl rfl (by (try simp only [List.map_toArray, List.map_cons, List.map_nil]); first | done | rfl) ?_
  refine (redlineref11_Old.calls k a0 a1 a2 a3 _ _ l0 xo _ (Kd.C_below HR0.out HB.out) HC0.out HO2.out).mono ?_
  rintro e' w_3_8 ⟨_, rfl, ho, hb⟩
  obtain ⟨Ap, cp, eep, hlp, rrp⟩ := Kd.R_reads ho
  subst eep
  have HRp := Aside0.mk rrp
  have HCp := Aside0.mk hlp
  have Zp := Aside0.mk (Below.refl w_3_8.heap.size w_3_8)
  clear rrp hlp ho
  refine ⟨_, rfl, ?_⟩
  have n_HB := Aside0.mk (below_step HB.out hb)
  have n_B3 := Aside0.mk (below_step B3.out hb)
  have n_BK1 := Aside0.mk (blk_below BK1.out hb)
  have n_BK3 := Aside0.mk (blk_below BK3.out hb)
  have n_Zo := Aside0.mk (below_step Zo.out hb)
  have n_Zn := Aside0.mk (below_step Zn.out hb)
  clear hb HB B3 BK1 BK3 Zo Zn
  have HB := n_HB
  have B3 := n_B3
  have BK1 := n_BK1
  have BK3 := n_BK3
  have Zo := n_Zo
  have Zn := n_Zn
  clear n_HB n_B3 n_BK1 n_BK3 n_Zo n_Zn
  refine hK.out _ _ ⟨(blk_cell BK3.out 0).trans rfl, (blk_cell BK3.out 1).trans rfl, (blk_cell BK3.out 2).trans rfl, (blk_cell BK3.out 3).trans rfl, (blk_cell BK3.out 4).trans rfl, (blk_cell BK1.out 0).trans rfl, (blk_cell BK1.out 1).trans rfl, (blk_cell BK1.out 2).trans rfl, (blk_cell BK1.out 3).trans rfl, (blk_cell BK1.out 4).trans rfl⟩ (fun hHeld => ?_)
  clear hK K
  refine norm_ (a' := ?_) ?_ ?_
  rotate_left
  · show Act.put _ (some 25) _ = _
    simp only [Act.put, List.setIfInBounds_toArray, List.set_cons_zero, List.set_cons_succ, i64_w, i32_w]
    rfl
  refine one_ (i := 9) (N := some 26) #[true, true, true, true, true, true, true, true, true, true, false, false, false, false, false, false, false, false, false] rfl rfl (one_of HT_.out (by kernel_rfl)) (by decide) (fun K hK => ?_)
  refine goes_ Try.func12 (by kernel_rfl) rfl #[.slice Ao xo.length co, .slice Ap xo.length cp] (by rfl) rfl rfl (by (try simp only [List.map_toArray, List.map_cons, List.map_nil]); first | done | rfl) ?_
  refine (redlineref01_SameStrings.calls k _ _ xo _ _ xo true _ (Kd.C_below HRo.out Zo.out) HCo.out (Kd.C_below HRp.out Zp.out) HCp.out HS1.out).mono ?_
  rintro e' w_3_9 ⟨rfl, hd⟩
  have hb := hd.below
  clear hd
  refine ⟨_, rfl, ?_⟩
  have n_HB := Aside0.mk (below_step HB.out hb)
  have n_B3 := Aside0.mk (below_step B3.out hb)
  have n_BK1 := Aside0.mk (blk_below BK1.out hb)
  have n_BK3 := Aside0.mk (blk_below BK3.out hb)
  have n_Zo := Aside0.mk (below_step Zo.out hb)
  have n_Zn := Aside0.mk (below_step Zn.out hb)
  have n_Zp := Aside0.mk (below_step Zp.out hb)
  clear hb HB B3 BK1 BK3 Zo Zn Zp
  have HB := n_HB
  have B3 := n_B3
  have BK1 := n_BK1
  have BK3 := n_BK3
  have Zo := n_Zo
  have Zn := n_Zn
  have Zp := n_Zp
  clear n_HB n_B3 n_BK1 n_BK3 n_Zo n_Zn n_Zp
  refine hK.out _ _ ⟨(blk_cell BK3.out 0).trans rfl, (blk_cell BK3.out 1).trans rfl, (blk_cell BK3.out 2).trans rfl, (blk_cell BK3.out 3).trans rfl, (blk_cell BK3.out 4).trans rfl, (blk_cell BK1.out 0).trans rfl, (blk_cell BK1.out 1).trans rfl, (blk_cell BK1.out 2).trans rfl, (blk_cell BK1.out 3).trans rfl, (blk_cell BK1.out 4).trans rfl⟩ (fun hHeld => ?_)
  clear hK K
  refine norm_ (a' := ?_) ?_ ?_
  rotate_left
  · show Act.put _ (some 26) _ = _
    simp only [Act.put, List.setIfInBounds_toArray, List.set_cons_zero, List.set_cons_succ, i64_w, i32_w]
    rfl
  refine pure_ (i := 10) (N := some 27) (v := ?_) (a' := ?_) #[true, true, true, true, true, true, true, true, true, true, true, false, false, false, false, false, false, false, false] rfl rfl (any_of HT_.out (by kernel_rfl)) (fun _ _ _ h => h) (Or.inl ⟨by rfl, ?_⟩) ?_ ?_
  rotate_left
  · intro w'
    go_simp
    with_reducible rfl
  rotate_left
  · simp only [Act.put, List.setIfInBounds_toArray, List.set_cons_zero, List.set_cons_succ, i64_w, i32_w]
    rfl
  refine pure_ (i := 11) (N := some 28) (v := ?_) (a' := ?_) #[true, true, true, true, true, true, true, true, true, true, true, true, false, false, false, false, false, false, false] rfl rfl (any_of HT_.out (by kernel_rfl)) (fun _ _ _ h => h) (Or.inl ⟨by rfl, ?_⟩) ?_ ?_
  rotate_left
  · intro w'
    go_simp
    with_reducible rfl
  rotate_left
  · simp only [Act.put, List.setIfInBounds_toArray, List.set_cons_zero, List.set_cons_succ, i64_w, i32_w]
    rfl
  refine pure_ (i := 12) (N := some 29) (v := ?_) (a' := ?_) #[true, true, true, true, true, true, true, true, true, true, true, true, true, false, false, false, false, false, false] rfl rfl (any_of HT_.out (by kernel_rfl)) (fun _ _ _ h => h) (Or.inl ⟨by rfl, ?_⟩) ?_ ?_
  rotate_left
  · intro w'
    go_simp
    with_reducible rfl
  rotate_left
  · simp only [Act.put, List.setIfInBounds_toArray, List.set_cons_zero, List.set_cons_succ, i64_w, i32_w]
    rfl
  refine pure_ (i := 13) (N := some 30) (v := ?_) (a' := ?_) #[true, true, true, true, true, true, true, true, true, true, true, true, true, true, false, false, false, false, false] rfl rfl (any_of HT_.out (by kernel_rfl)) (fun _ _ _ h => h) (Or.inl ⟨by rfl, ?_⟩) ?_ ?_
  rotate_left
  · intro w'
    go_simp
    with_reducible rfl
  rotate_left
  · simp only [Act.put, List.setIfInBounds_toArray, List.set_cons_zero, List.set_cons_succ, i64_w, i32_w]
    rfl
  refine take_ (i := 14) (N := some 31) (v := ?_) (a' := ?_) #[true, true, true, true, true, true, true, true, true, true, true, true, true, true, true, false, false, false, false] rfl rfl (take_ofW HT_.out HW_.out (by kernel_rfl)) (fun _ _ _ h => h) (Or.inl ⟨by rfl, ?_⟩) hHeld ?_ ?_
  rotate_left
  · rintro w' ⟨s0, s1, s2, s3, s4, s5, s6, s7, s8, s9⟩
    go_simp
    with_reducible rfl
  rotate_left
  · simp only [Act.put, List.setIfInBounds_toArray, List.set_cons_zero, List.set_cons_succ, i64_w, i32_w]
    rfl
  refine one_ (i := 15) (N := some 32) #[true, true, true, true, true, true, true, true, true, true, true, true, true, true, true, true, false, false, false] rfl rfl (one_of HT_.out (by kernel_rfl)) (by decide) (fun K hK => ?_)
  refine goes_ Try.func19 (by kernel_rfl) rfl #[.agg #[.int .i64 a0, .int .i64 a1, .int .i64 a2, .int .i64 a3, .slice A0 l0.length c0]] (by rfl) rfl rfl (by (try simp only [List.map_toArray, List.map_cons, List.map_nil]); first | done | rfl) ?_
  refine (redlineref11_New.calls k a0 a1 a2 a3 _ _ l0 xn _ (Kd.C_below HR0.out HB.out) HC0.out HN2.out).mono ?_
  rintro e' w_3_15 ⟨_, rfl, ho, hb⟩
  obtain ⟨Am, cm, eem, hlm, rrm⟩ := Kd.R_reads ho
  subst eem
  have HRm := Aside0.mk rrm
  have HCm := Aside0.mk hlm
  have Zm := Aside0.mk (Below.refl w_3_15.heap.size w_3_15)
  clear rrm hlm ho
  refine ⟨_, rfl, ?_⟩
  have n_HB := Aside0.mk (below_step HB.out hb)
  have n_B3 := Aside0.mk (below_step B3.out hb)
  have n_BK1 := Aside0.mk (blk_below BK1.out hb)
  have n_BK3 := Aside0.mk (blk_below BK3.out hb)
  have n_Zo := Aside0.mk (below_step Zo.out hb)
  have n_Zn := Aside0.mk (below_step Zn.out hb)
  have n_Zp := Aside0.mk (below_step Zp.out hb)
  clear hb HB B3 BK1 BK3 Zo Zn Zp
  have HB := n_HB
  have B3 := n_B3
  have BK1 := n_BK1
  have BK3 := n_BK3
  have Zo := n_Zo
  have Zn := n_Zn
  have Zp := n_Zp
  clear n_HB n_B3 n_BK1 n_BK3 n_Zo n_Zn n_Zp
  refine hK.out _ _ ⟨(blk_cell BK3.out 0).trans rfl, (blk_cell BK3.out 1).trans rfl, (blk_cell BK3.out 2).trans rfl, (blk_cell BK3.out 3).trans rfl, (blk_cell BK3.out 4).trans rfl, (blk_cell BK1.out 0).trans rfl, (blk_cell BK1.out 1).trans rfl, (blk_cell BK1.out 2).trans rfl, (blk_cell BK1.out 3).trans rfl, (blk_cell BK1.out 4).trans rfl⟩ (fun hHeld => ?_)
  clear hK K
  refine norm_ (a' := ?_) ?_ ?_
  rotate_left
  · show Act.put _ (some 32) _ = _
    simp only [Act.put, List.setIfInBounds_toArray, List.set_cons_zero, List.set_cons_succ, i64_w, i32_w]
    rfl
  refine one_ (i := 16) (N := some 33) #[true, true, true, true, true, true, true, true, true, true, true, true, true, true, true, true, true, false, false] rfl rfl (one_of HT_.out (by kernel_rfl)) (by decide) (fun K hK => ?_)
  refine goes_ Try.func12 (by kernel_rfl) rfl #[.slice An xn.length cn, .slice Am xn.length cm] (by rfl) rfl rfl (by (try simp only [List.map_toArray, List.map_cons, List.map_nil]); first | done | rfl) ?_
  refine (redlineref01_SameStrings.calls k _ _ xn _ _ xn true _ (Kd.C_below HRn.out Zn.out) HCn.out (Kd.C_below HRm.out Zm.out) HCm.out HS2.out).mono ?_
  rintro e' w_3_16 ⟨rfl, hd⟩
  have hb := hd.below
  clear hd
  refine ⟨_, rfl, ?_⟩
  have n_HB := Aside0.mk (below_step HB.out hb)
  have n_B3 := Aside0.mk (below_step B3.out hb)
  have n_BK1 := Aside0.mk (blk_below BK1.out hb)
  have n_BK3 := Aside0.mk (blk_below BK3.out hb)
  have n_Zo := Aside0.mk (below_step Zo.out hb)
  have n_Zn := Aside0.mk (below_step Zn.out hb)
  have n_Zp := Aside0.mk (below_step Zp.out hb)
  have n_Zm := Aside0.mk (below_step Zm.out hb)
  clear hb HB B3 BK1 BK3 Zo Zn Zp Zm
  have HB := n_HB
  have B3 := n_B3
  have BK1 := n_BK1
  have BK3 := n_BK3
  have Zo := n_Zo
  have Zn := n_Zn
  have Zp := n_Zp
  have Zm := n_Zm
  clear n_HB n_B3 n_BK1 n_BK3 n_Zo n_Zn n_Zp n_Zm
  refine hK.out _ _ ⟨(blk_cell BK3.out 0).trans rfl, (blk_cell BK3.out 1).trans rfl, (blk_cell BK3.out 2).trans rfl, (blk_cell BK3.out 3).trans rfl, (blk_cell BK3.out 4).trans rfl, (blk_cell BK1.out 0).trans rfl, (blk_cell BK1.out 1).trans rfl, (blk_cell BK1.out 2).trans rfl, (blk_cell BK1.out 3).trans rfl, (blk_cell BK1.out 4).trans rfl⟩ (fun hHeld => ?_)
  clear hK K
  refine norm_ (a' := ?_) ?_ ?_
  rotate_left
  · show Act.put _ (some 33) _ = _
    simp only [Act.put, List.setIfInBounds_toArray, List.set_cons_zero, List.set_cons_succ, i64_w, i32_w]
    rfl
  refine pure_ (i := 17) (N := some 34) (v := ?_) (a' := ?_) #[true, true, true, true, true, true, true, true, true, true, true, true, true, true, true, true, true, true, false] rfl rfl (any_of HT_.out (by kernel_rfl)) (fun _ _ _ h => h) (Or.inl ⟨by rfl, ?_⟩) ?_ ?_
  rotate_left
  · intro w'
    go_simp
    with_reducible rfl
  rotate_left
  · simp only [Act.put, List.setIfInBounds_toArray, List.set_cons_zero, List.set_cons_succ, i64_w, i32_w]
    rfl
  refine pure_ (i := 18) (N := some 35) (v := ?_) (a' := ?_) #[true, true, true, true, true, true, true, true, true, true, true, true, true, true, true, true, true, true, true] rfl rfl (any_of HT_.out (by kernel_rfl)) (fun _ _ _ h => h) (Or.inl ⟨by rfl, ?_⟩) ?_ ?_
  rotate_left
  · intro w'
    go_simp
    with_reducible rfl
  rotate_left
  · simp only [Act.put, List.setIfInBounds_toArray, List.set_cons_zero, List.set_cons_succ, i64_w, i32_w]
    rfl
  refine done_ (done_of HT_.out (by kernel_rfl)) ?_
  clear HRo HRn HRp HRm HCo HCn HCp HCm Zo Zn Zp Zm HO1 HN1 HO2 HN2 HK1 HK2 HS1 HS2
  try clear hHeld
  have q0 := (blk_cell BK3.out 0).trans (show _ = some (Value.int .i64 a0) from rfl)
  have q1 := (blk_cell BK3.out 1).trans (show _ = some (Value.int .i64 a1) from rfl)
  have q2 := (blk_cell BK3.out 2).trans (show _ = some (Value.int .i64 a2) from rfl)
  have q3 := (blk_cell BK3.out 3).trans (show _ = some (Value.int .i64 a3) from rfl)
  have q4 := (blk_cell BK3.out 4).trans (show _ = some (Value.slice A4 l0.length c4) from rfl)
  go_upto_region 6 with (first | (go_at_call 20; refine (hunks_Invert.calls a0 a1 a2 a3 A4 c4 l0 b0 b1 b2 b3 y _ (Kd.C_below HR4.out B3.out) HC4.out HI1.out).mono ?_; rintro e' w7 ⟨v7, rfl, hs7, hb⟩; obtain ⟨A7, c7, rfl⟩ := Kd.R_slice hs7; have HX := Aside0.mk hs7; have B7 := Aside0.mk hb; clear hs7 hb q0 q1 q2 q3 q4) | ((with_reducible refine gate_dst (N := 6) rfl ?_); refine box_event ?hg (N := 6) ?hd (cs := #[.int .i64 0, .int .i64 0, .int .i64 0, .int .i64 0, .slice none 0 0]) (t := 39) ?hr ?_; (case hd => rfl); (case hg => rfl); (case hr => first | (go_simp; done) | (go_simp; rfl)); intro gx hg w8 hbox hb; have GX := Aside0.mk (by rw [hg]; exact B7.out.size : w_3_16.heap.size ≤ gx); have n1_ := Aside0.mk (below_step B7.out hb); have n2_ := Aside0.mk (Kd.R_below HX.out hb); clear HX B7; have B7 := n1_; have HX := n2_; clear n1_ n2_; have BX := Aside0.mk hbox; clear hbox hg hb; have o0 := (blk_cell BX.out 0).trans (show _ = some (Value.int .i64 0) from rfl); have o1 := (blk_cell BX.out 1).trans (show _ = some (Value.int .i64 0) from rfl); have o2 := (blk_cell BX.out 2).trans (show _ = some (Value.int .i64 0) from rfl); have o3 := (blk_cell BX.out 3).trans (show _ = some (Value.int .i64 0) from rfl); have o4 := (blk_cell BX.out 4).trans (show _ = some (Value.slice none 0 0) from rfl); have k0 := blk_frozen BX.out 0; have k1 := blk_frozen BX.out 1; have k2 := blk_frozen BX.out 2; have k3 := blk_frozen BX.out 3; have k4 := blk_frozen BX.out 4) | ((with_reducible refine gate_store (t := 39) (p := 6) rfl ?_); refine store_event (t := 39) (p := 6) (v := ?vo_s6) (w1 := (((((w8.setCell ⟨gx, 0, none⟩ (.int .i64 b0)).setCell ⟨gx, 1, none⟩ (.int .i64 b1)).setCell ⟨gx, 2, none⟩ (.int .i64 b2)).setCell ⟨gx, 3, none⟩ (.int .i64 b3)).setCell ⟨gx, 4, none⟩ (.slice A7 y.length c7))) ?hg ?ho ?hn ?hr ?_; (case ho => rfl); (case hg => rfl); (case hn => rfl); (case hr => first | (go_simp; done) | (go_simp; rfl)); intro w9 hw; have n0_ : Aside0 (w9.heap[gx]? = some (.cells #[.int .i64 b0, .int .i64 b1, .int .i64 b2, .int .i64 b3, .slice A7 y.length c7] 39 (0, 0))) := ⟨by rw [hw]; exact blk_put (blk_put (blk_put (blk_put (blk_put BX.out 0 _ rfl) 1 _ rfl) 2 _ rfl) 3 _ rfl) 4 _ rfl⟩; have n1_ : Aside0 (Below w_3_16.heap.size w_3_16 w9) := ⟨by rw [hw]; exact ((((B7.out.setCell GX.out _).setCell GX.out _).setCell GX.out _).setCell GX.out _).setCell GX.out _⟩; have n2_ : Aside0 (Kd.R k46 46 w9 w_3_16.heap.size (fun k => k ≠ gx) (.slice A7 y.length c7) y) := ⟨by rw [hw]; exact Kd.R_mono (Kd.R_far (Kd.R_far (Kd.R_far (Kd.R_far (Kd.R_far (Kd.R_types HX.out BX.out (hi_ne (by decide))) (fun k hk => hk.2) _) (fun k hk => hk.2) _) (fun k hk => hk.2) _) (fun k hk => hk.2) _) (fun k hk => hk.2) _) (fun k hk => hk.2)⟩; clear HX BX B7 hw o0 o1 o2 o3 o4 k0 k1 k2 k3 k4; have BX := n0_; have B7 := n1_; have HX := n2_; clear n0_ n1_ n2_))
  have BQ := Aside0.mk (blk_below BK1.out B7.out)
  have n_B7 := Aside0.mk (below_drew1 B7.out)
  have n_BX := Aside0.mk (blk_drew BX.out)
  have n_BQ := Aside0.mk (blk_drew BQ.out)
  have n_HX := Aside0.mk (Kd.R_drew HX.out)
  clear B7 BX BQ HX
  have B7 := n_B7
  have BX := n_BX
  have BQ := n_BQ
  have HX := n_HX
  clear n_B7 n_BX n_BQ n_HX
  refine start_ (n := 5) (S := fun w' => w'.cell? ⟨gx, 0, none⟩ = some (Value.int .i64 b0) ∧ w'.cell? ⟨gx, 1, none⟩ = some (Value.int .i64 b1) ∧ w'.cell? ⟨gx, 2, none⟩ = some (Value.int .i64 b2) ∧ w'.cell? ⟨gx, 3, none⟩ = some (Value.int .i64 b3) ∧ w'.cell? ⟨gx, 4, none⟩ = some (Value.slice A7 y.length c7) ∧ w'.cell? ⟨g1, 0, none⟩ = some (Value.int .i64 a0) ∧ w'.cell? ⟨g1, 1, none⟩ = some (Value.int .i64 a1) ∧ w'.cell? ⟨g1, 2, none⟩ = some (Value.int .i64 a2) ∧ w'.cell? ⟨g1, 3, none⟩ = some (Value.int .i64 a3) ∧ w'.cell? ⟨g1, 4, none⟩ = some (Value.slice A0 l0.length c0)) (ds := []) #[false, false, false, false, false] (by kernel_rfl) rfl rfl ⟨(blk_cell BX.out 0).trans rfl, (blk_cell BX.out 1).trans rfl, (blk_cell BX.out 2).trans rfl, (blk_cell BX.out 3).trans rfl, (blk_cell BX.out 4).trans rfl, (blk_cell BQ.out 0).trans rfl, (blk_cell BQ.out 1).trans rfl, (blk_cell BQ.out 2).trans rfl, (blk_cell BQ.out 3).trans rfl, (blk_cell BQ.out 4).trans rfl⟩ (fun hHeld => ?_)
  refine with_tabW Hch.tab6 Hch.bits6 (fun HT_ HW_ => ?_)
  generalize w9.drew = w_6 at B7 BX BQ HX hHeld ⊢
  refine take_ (i := 0) (N := some 38) (v := ?_) (a' := ?_) #[true, false, false, false, false] rfl rfl (take_ofW HT_.out HW_.out (by kernel_rfl)) (fun _ _ _ h => h) (Or.inl ⟨by rfl, ?_⟩) hHeld ?_ ?_
  rotate_left
  · rintro w' ⟨s0, s1, s2, s3, s4, s5, s6, s7, s8, s9⟩
    go_simp
    with_reducible rfl
  rotate_left
  · simp only [Act.put, List.setIfInBounds_toArray, List.set_cons_zero, List.set_cons_succ, i64_w, i32_w]
    rfl
  refine take_ (i := 1) (N := some 39) (v := ?_) (a' := ?_) #[true, true, false, false, false] rfl rfl (take_ofW HT_.out HW_.out (by kernel_rfl)) (fun _ _ _ h => h) (Or.inl ⟨by rfl, ?_⟩) hHeld ?_ ?_
  rotate_left
  · rintro w' ⟨s0, s1, s2, s3, s4, s5, s6, s7, s8, s9⟩
    go_simp
    with_reducible rfl
  rotate_left
  · simp only [Act.put, List.setIfInBounds_toArray, List.set_cons_zero, List.set_cons_succ, i64_w, i32_w]
    rfl
  refine one_ (i := 2) (N := some 40) #[true, true, true, false, false] rfl rfl (one_of HT_.out (by kernel_rfl)) (by decide) (fun K hK => ?_)
  refine goes_ Try.func22 (by kernel_rfl) rfl #[.agg #[.int .i64 a0, .int .i64 a1, .int .i64 a2, .int .i64 a3, .slice A0 l0.length c0]] (by rfl) rfl rfl (by (try simp only [List.map_toArray, List.map_cons, List.map_nil]); first | done | rfl) ?_
  refine (redlineref11_Invert.calls k a0 a1 a2 a3 _ _ l0 b0 b1 b2 b3 y _ (Kd.C_below HR0.out (below_step HB.out B7.out)) HC0.out HI2.out).mono ?_
  rintro e' w_6_2 ⟨_, rfl, ho, hb⟩
  obtain ⟨At, ct, eet, hlt, rrt⟩ := Kd.R_reads ho
  subst eet
  have HRt := Aside0.mk rrt
  have HCt := Aside0.mk hlt
  have Zt := Aside0.mk (Below.refl w_6_2.heap.size w_6_2)
  clear rrt hlt ho
  refine ⟨_, rfl, ?_⟩
  have n_B7 := Aside0.mk (below_step B7.out hb)
  have n_BX := Aside0.mk (blk_below BX.out hb)
  have n_BQ := Aside0.mk (blk_below BQ.out hb)
  have n_HX := Aside0.mk (Kd.R_below HX.out hb)
  clear hb B7 BX BQ HX
  have B7 := n_B7
  have BX := n_BX
  have BQ := n_BQ
  have HX := n_HX
  clear n_B7 n_BX n_BQ n_HX
  refine hK.out _ _ ⟨(blk_cell BX.out 0).trans rfl, (blk_cell BX.out 1).trans rfl, (blk_cell BX.out 2).trans rfl, (blk_cell BX.out 3).trans rfl, (blk_cell BX.out 4).trans rfl, (blk_cell BQ.out 0).trans rfl, (blk_cell BQ.out 1).trans rfl, (blk_cell BQ.out 2).trans rfl, (blk_cell BQ.out 3).trans rfl, (blk_cell BQ.out 4).trans rfl⟩ (fun hHeld => ?_)
  clear hK K
  refine norm_ (a' := ?_) ?_ ?_
  rotate_left
  · show Act.put _ (some 40) _ = _
    simp only [Act.put, List.setIfInBounds_toArray, List.set_cons_zero, List.set_cons_succ, i64_w, i32_w]
    rfl
  refine one_ (i := 3) (N := some 41) #[true, true, true, true, false] rfl rfl (one_of HT_.out (by kernel_rfl)) (by decide) (fun K hK => ?_)
  refine goes_ Try.func21 (by kernel_rfl) rfl #[.agg #[.int .i64 b0, .int .i64 b1, .int .i64 b2, .int .i64 b3, .slice A7 y.length c7], .agg #[.int .i64 b0, .int .i64 b1, .int .i64 b2, .int .i64 b3, .slice At y.length ct]] (by rfl) rfl rfl (by (try simp only [List.map_toArray, List.map_cons, List.map_nil]); first | done | rfl) ?_
  refine (redlineref11_Same.calls k b0 b1 b2 b3 _ _ y b0 b1 b2 b3 _ _ y true _ (Kd.R_reads' HX.out).2.2 (Kd.R_reads' HX.out).2.1 (Kd.C_below HRt.out Zt.out) HCt.out HS3.out).mono ?_
  rintro e' w_6_3 ⟨rfl, hb⟩
  refine ⟨_, rfl, ?_⟩
  have n_B7 := Aside0.mk (below_step B7.out hb)
  have n_BX := Aside0.mk (blk_below BX.out hb)
  have n_BQ := Aside0.mk (blk_below BQ.out hb)
  have n_HX := Aside0.mk (Kd.R_below HX.out hb)
  clear hb B7 BX BQ HX
  have B7 := n_B7
  have BX := n_BX
  have BQ := n_BQ
  have HX := n_HX
  clear n_B7 n_BX n_BQ n_HX
  refine hK.out _ _ ⟨(blk_cell BX.out 0).trans rfl, (blk_cell BX.out 1).trans rfl, (blk_cell BX.out 2).trans rfl, (blk_cell BX.out 3).trans rfl, (blk_cell BX.out 4).trans rfl, (blk_cell BQ.out 0).trans rfl, (blk_cell BQ.out 1).trans rfl, (blk_cell BQ.out 2).trans rfl, (blk_cell BQ.out 3).trans rfl, (blk_cell BQ.out 4).trans rfl⟩ (fun hHeld => ?_)
  clear hK K
  refine norm_ (a' := ?_) ?_ ?_
  rotate_left
  · show Act.put _ (some 41) _ = _
    simp only [Act.put, List.setIfInBounds_toArray, List.set_cons_zero, List.set_cons_succ, i64_w, i32_w]
    rfl
  refine pure_ (i := 4) (N := some 42) (v := ?_) (a' := ?_) #[true, true, true, true, true] rfl rfl (any_of HT_.out (by kernel_rfl)) (fun _ _ _ h => h) (Or.inl ⟨by rfl, ?_⟩) ?_ ?_
  rotate_left
  · intro w'
    go_simp
    with_reducible rfl
  rotate_left
  · simp only [Act.put, List.setIfInBounds_toArray, List.set_cons_zero, List.set_cons_succ, i64_w, i32_w]
    rfl
  refine done_ (done_of HT_.out (by kernel_rfl)) ?_
  try clear hHeld
  clear HRt HCt Zt BQ HI1 HI2 HS3
  try go_wp2
  go_loopg [7] y.length (fun q v7 w' => ∃ (z : Int) (ys : List S46), v7 = .int .i64 z ∧ 0 ≤ z ∧ z ≤ 1000000000000000 ∧ Aside0 (z + (q : Int) = y.length) ∧ Aside0 (Kd.R k46 46 w' w_3_16.heap.size (fun k => k ≠ gx) (.slice A7 y.length c7) ys) ∧ Aside0 (w'.heap[gx]? = some (.cells #[.int .i64 b0, .int .i64 b1, .int .i64 b2, .int .i64 b3, .slice A7 y.length c7] 39 (0, 0))) ∧ Aside0 (Below w_3_16.heap.size w_3_16 w'))
  case atStart => exact ⟨0, y, rfl, by omega, by omega, ⟨by omega⟩, HX, BX, B7⟩
  case round =>
    clear HX BX B7
    obtain ⟨z, ys, rfl, hz1, hz2, HZ, HX, BX, B7⟩ := hrel
    have f4 := (blk_cell BX.out 4).trans (show _ = some (Value.slice A7 y.length c7) from rfl)
    cases gk with
    | zero =>
      have hzl : z = (y.length : Int) := by have := HZ.out; omega
      subst hzl
      have hp : ((y.length : Int) < (y.length : Int)) = False := eq_false (Int.lt_irrefl _)
      have BQ1 := Aside0.mk (blk_below BK1.out B7.out)
      have BQ3 := Aside0.mk (blk_below BK3.out B7.out)
      have q0 := (blk_cell BQ3.out 0).trans (show _ = some (Value.int .i64 a0) from rfl)
      have q1 := (blk_cell BQ3.out 1).trans (show _ = some (Value.int .i64 a1) from rfl)
      have q2 := (blk_cell BQ3.out 2).trans (show _ = some (Value.int .i64 a2) from rfl)
      have q3 := (blk_cell BQ3.out 3).trans (show _ = some (Value.int .i64 a3) from rfl)
      have q4 := (blk_cell BQ3.out 4).trans (show _ = some (Value.slice A4 l0.length c4) from rfl)
      have p0 := (blk_cell BQ1.out 0).trans (show _ = some (Value.int .i64 a0) from rfl)
      have p1 := (blk_cell BQ1.out 1).trans (show _ = some (Value.int .i64 a1) from rfl)
      have p2 := (blk_cell BQ1.out 2).trans (show _ = some (Value.int .i64 a2) from rfl)
      have p3 := (blk_cell BQ1.out 3).trans (show _ = some (Value.int .i64 a3) from rfl)
      have p4 := (blk_cell BQ1.out 4).trans (show _ = some (Value.slice A0 l0.length c0) from rfl)
      go_wp2_with (go_at_call 21; refine (redlineref11_Same.calls k a0 a1 a2 a3 _ _ l0 a0 a1 a2 a3 _ _ l0 true _ (Kd.C_below HR4.out (below_step B3.out B7.out)) HC4.out (Kd.C_below HR0.out (below_step HB.out B7.out)) HC0.out HS4.out).mono ?_; rintro e' w14 ⟨rfl, hb⟩; have HE := Aside0.mk (below_step (below_step HB.out B7.out) hb); clear hb)
      go_ret
      exact ⟨rfl, HE.out⟩
    | succ q1 =>
      have hzl : decide (z < (y.length : Int)) = true := decide_eq_true (by have := HZ.out; omega)
      have hz3 := of_decide_eq_true hzl
      obtain ⟨gb, e7, s1, s2, ⟨sx, s3⟩, s4, ys', s5⟩ := Hch.spoil_one HX.out z hz1 hz3 ⟨#[115, 112, 111, 105, 108, 116]⟩
      subst e7
      have p1 := eq_true hz1
      have p2 := eq_true hz3
      have hw : wrap64 (z + 1) = z + 1 := by unfold wrap64; omega
      have HW := Aside0.mk hw
      have n1_ := Aside0.mk s5
      have n2_ := Aside0.mk (blk_far BX.out (p := ⟨gb, z.toNat * 2 + 1, none⟩) (Ne.symm s1) (.string ⟨#[115, 112, 111, 105, 108, 116]⟩))
      have n3_ := Aside0.mk (B7.out.setCell (p := ⟨gb, z.toNat * 2 + 1, none⟩) s2 (.string ⟨#[115, 112, 111, 105, 108, 116]⟩))
      clear s1 s2 s5
      go_wp2
      go_roundg q1
      case measure => omega
      case rel => exact ⟨z + 1, ys', by go_num, by omega, by have := HZ.out; have := HY.out; omega, ⟨by have := HZ.out; omega⟩, n1_, n2_, n3_⟩
end Go.Proofs.Ytmnajajnbmlihaa.X
