import Derived.Test.YtonbplflmdpikaaZOXx0
import Derived.Maps.OwnOps
import Derived.Maps.Views
namespace Go.Proofs.Ytonbplflmdpikaa.X
open Go.RowKit Go.Proofs.YtonbplflmdpikaaW.PrintWords Go.Proofs.YtonbplflmdpikaaW.PrintLast Go.Proofs.YtonbplflmdpikaaW.PrintMore
attribute [local go_sem] max2_int min2_int max_two min_two max_three min_three max_four min_four   -- for this text's walks alone
open Go.Proofs.YtonbplflmdpikaaW.HandWords
set_option linter.unusedVariables false
set_option linter.unusedSimpArgs false
def pu_cnt (x : List Int) (c : Int) : Nat → Int
  | 0 => 0
  | n + 1 => pu_cnt x c n + (if x.getD n 0 = c then 1 else 0)
def pu_last (x : List Int) (c : Int) : Nat → Int
  | 0 => 0
  | n + 1 => if x.getD n 0 = c then (n : Int) else pu_last x c n
def pu_rows (x y : List Int) : Nat → Nat → List S27
  | 0, _ => []
  | q + 1, i => (if pu_cnt x (x.getD i 0) x.length = 1 ∧ pu_cnt y (x.getD i 0) y.length = 1 then [⟨(i : Int), pu_last y (x.getD i 0) y.length⟩] else []) ++ pu_rows x y q (i + 1)
def patience_Unique.f (l0 l1 : List Int) : Option (List S27) :=
  if l0.length ≤ 1000000 ∧ l1.length ≤ 1000000 ∧ (∀ x ∈ l0, (Lit.int .i64 x).wf = true) ∧ (∀ x ∈ l1, (Lit.int .i64 x).wf = true) then some (pu_rows l0 l1 l0.length 0) else none
theorem pu_cnt_bd (x : List Int) (c : Int) : ∀ n, 0 ≤ pu_cnt x c n ∧ pu_cnt x c n ≤ n := by
  intro n
  induction n with
  | zero => simp [pu_cnt]
  | succ n ih => rw [pu_cnt]; split <;> omega
theorem pu_rd_mem {x : List Int} {z : Int} (h0 : 0 ≤ z) (h1 : z < (x.length : Int)) : rd x z ∈ x := by
  have h : z.toNat < x.length := by omega
  unfold rd
  rw [List.getD_eq_getElem?_getD, List.getElem?_eq_getElem h]
  exact List.getElem_mem h
theorem pv_keyed : Go.Maps.Keyed Try.prog 3 := Go.Maps.int_keyed Try.underlying3
def pv (a b c d : Int) : Value := .agg #[.int .i64 a, .int .i64 b, .int .i64 c, .int .i64 d]
theorem pv_zero (w : World) : (zeroValue 53).run Try.prog w = .ok (pv 0 0 0 0) w := by kernel_rfl
def pv_el (v : Value) : Option (DataW Value × List MemPlace) := some (.held v, [])
def MapV (W : World) (g n : Nat) (f : Int → Value) : Prop := ∃ D : DataW Value, Go.Maps.IsMap D ∧ W.ownsMap Try.prog 3 pv_el g n D ∧ ∀ c, (Lit.int .i64 c).wf = true → D.atKey (.int .i64 c) (.held (pv 0 0 0 0)) = .held (f c)
theorem MapV.made (W : World) : MapV (W.alloc (.map #[] 0)) W.heap.size 0 (fun _ => pv 0 0 0 0) := ⟨.map [], Go.Maps.isMap_empty, World.ownsMap_made _ _ _ _, fun _ _ => rfl⟩
theorem MapV.kept {W W' : World} {g n : Nat} {f : Int → Value} {row : Option Nat} (h : MapV W g n f) (hg : W.grownBy W' row) (hne : some g ≠ row) : MapV W' g n f := by
  obtain ⟨D, h1, h2, h3⟩ := h
  exact ⟨D, h1, h2.kept hg hne, h3⟩
theorem MapV.same {W W' : World} {g n : Nat} {f : Int → Value} (h : MapV W g n f) (e : W'.heap[g]? = W.heap[g]?) : MapV W' g n f := by
  obtain ⟨D, h1, ⟨es, clock, h2, h4⟩, h3⟩ := h
  exact ⟨D, h1, ⟨es, clock, e.trans h2, h4⟩, h3⟩
theorem MapV.set {W : World} {g n : Nat} {f : Int → Value} (h : MapV W g n f) {p : Addr} (hp : g ≠ p.block) (u : Value) : MapV (W.setCell p u) g n f := h.same (Below.heap_setCell W p u g hp)
theorem MapV.ne {W : World} {g n k : Nat} {f : Int → Value} {cs : Array Value} {t : TypeId} {fr : Nat × Nat} (h : MapV W g n f) (hk : W.heap[k]? = some (.cells cs t fr)) : g ≠ k := by
  obtain ⟨D, h1, ⟨es, clock, h2, h4⟩, h3⟩ := h
  rintro rfl
  rw [hk] at h2
  cases h2
theorem MapV.congr {W : World} {g n n' : Nat} {f f' : Int → Value} (h : MapV W g n f) (hn : n = n') (e : ∀ c, f c = f' c) : MapV W g n' f' := by
  obtain rfl : f = f' := funext e
  subst hn
  exact h
theorem MapV.lt {W : World} {g n : Nat} {f : Int → Value} (h : MapV W g n f) : g < W.heap.size := by
  obtain ⟨D, h1, h2, h3⟩ := h
  exact h2.lt
theorem MapV.app {α : Type} {d : Kd α} {e : TypeId} {base : Nat} {ok : Nat → Prop} {v : Value} {xs : List α} {W W' : World} {g n : Nat} {f : Int → Value} (h : MapV W g n f) (hR : d.R e W base ok v xs) (hg : W.grownBy W' v.ownBlock) : MapV W' g n f := h.kept hg (by
  intro e
  obtain ⟨inner, ho⟩ := Kd.R_own hR
  obtain ⟨cells, hc⟩ := own_typed ho g e.symm
  exact h.ne hc rfl)
theorem MapV.look {W : World} {g n : Nat} {f : Int → Value} (h : MapV W g n f) (c : Int) (hc : (Lit.int .i64 c).wf = true) : (Instr.lookup 51 (.map (some g)) (.int .i64 c) false).run Try.prog W = .ok (f c) W := by
  obtain ⟨D, h1, h2, h3⟩ := h
  obtain ⟨v, ps, hrun, hv⟩ := h2.lookup pv_keyed Try.underlying51 (pv_zero W) (zd := .held (pv 0 0 0 0)) (zp := []) rfl (Go.Maps.keyOf_int_mk Try.underlying3 hc)
  rw [h3 c hc] at hv
  simp only [pv_el, Option.some.injEq, Prod.mk.injEq] at hv
  have e : v = f c := by have := hv.1; injection this
  rw [← e]; exact hrun
theorem MapV.put_event {P : Program} (hP : P = Try.prog) {W : World} {ops : Array Oper} {rest : List Oper} {o : Oper} {a : Act} {Q : Exit → Act → World → Prop} (hg : o.guard = none) (m x v : Operand) (hop : o.op = Op.mapUpdate 51 m x v)
    {g n : Nat} {f : Int → Value} (hm : a.eval m = .map (some g)) (h : MapV W g n f) (hn : n < maxLen) (c : Int) (d : Value) (hx : a.eval x = .int .i64 c) (hv : a.eval v = d) (hc : (Lit.int .i64 c).wf = true)
    (hK : ∀ w', MapV w' g (n + 1) (fun q => if q = c then d else f q) → W.grownBy w' (some g) → wpList P ops Q rest (a.put o.dst undef) w') : wpList P ops Q (o :: rest) a W := by
  subst hP
  obtain ⟨D, h1, h2, h3⟩ := h
  refine wpList_mapUpdate_own W hg m x v 51 hop 3 53 pv_keyed Try.underlying51 pv_el g n D hm h2 hn _ _ (.int .i64 c) hx hv (Go.Maps.keyOf_int_mk Try.underlying3 hc) (.held d) [] rfl ?_
  intro w' h4 h5
  refine hK w' ⟨D.put (.int .i64 c) (.held d), h1.put _ _, h4, ?_⟩ h5
  intro q hq
  by_cases e : q = c
  · subst e
    rw [Go.Maps.atKey_put_same h1 (by exact trivial)]; dsimp only; rw [if_pos rfl]
  · rw [Go.Maps.atKey_put_other (by intro h; injection h with _ h; exact e h)]; dsimp only; rw [if_neg e]
    exact h3 q hq
theorem pv_load {W : World} {g : Nat} {x y n m : Int} (h : W.heap[g]? = some (.cells #[.int .i64 x, .int .i64 y, .int .i64 n, .int .i64 m] 53 (0, 0))) {o : Oper} {a : Act} {p : Operand} (ho : o.op = .load 53 p) (hp : a.eval p = .pointer (some ⟨g, 0, none⟩)) :
    (execOp a.eval o).run Try.prog W = .ok (.value (pv x y n m)) W := by
  have h1 := run_loadVar_row W g 53 53 _ (0, 0) _ h Try.underlying53 rfl (by kernel_rfl)
  simp [execOp, ho, hp, Instr.loadAt, Instr.sureAddr, asAddr, h1, pv, Result.andThen]
set_option maxHeartbeats 2000000 in
set_option maxRecDepth 100000 in
theorem patience_Unique.calls (A0 : Option Addr) (c0 : Nat) (l0 : List Int) (A1 : Option Addr) (c1 : Nat) (l1 : List Int) (r : List S27) (w : World) (hr0 : Kd.C (Kd.int .i64) w A0 l0.length l0) (hc0 : l0.length ≤ c0) (hr1 : Kd.C (Kd.int .i64) w A1 l1.length l1) (hc1 : l1.length ≤ c1) (h : patience_Unique.f l0 l1 = some r) :
    Calls Try.prog 9 #[.slice A0 l0.length c0, .slice A1 l1.length c1] w fun e w' => ∃ v0_ : Value, e = .returned v0_ ∧ Kd.R k27 27 w' w.heap.size (fun _ => True) v0_ r ∧ Below w.heap.size w w' := by
  unfold patience_Unique.f at h
  by_cases hlen : l0.length ≤ 1000000 ∧ l1.length ≤ 1000000 ∧ (∀ x ∈ l0, (Lit.int .i64 x).wf = true) ∧ (∀ x ∈ l1, (Lit.int .i64 x).wf = true)
  case neg => rw [if_neg hlen] at h; cases h
  rw [if_pos hlen] at h
  obtain ⟨hn0, hn1, hwf0, hwf1⟩ := hlen
  have HF := Aside0.mk (Option.some.inj h)
  clear h
  have HW0 := Aside0.mk hwf0
  have HW1 := Aside0.mk hwf1
  clear hwf0 hwf1
  have HR0 := Aside0.mk hr0
  have HC0 := Aside0.mk hc0
  clear hr0 hc0
  have HR1 := Aside0.mk hr1
  have HC1 := Aside0.mk hc1
  clear hr1 hc1
  have hu53 := Try.underlying53
  have hmm := @run_makeMap Try.prog
  have HB := Aside0.mk (Below.refl w.heap.size w)
  go_enter Try.func9, Try.ntmps9
  go_wp2
  obtain ⟨gm, hgm⟩ : ∃ gm, gm = w.heap.size := ⟨_, rfl⟩
  have HM0 : Aside0 (MapV (w.alloc (.map #[] 0)) gm 0 (fun c => pv (pu_last l0 c 0) 0 (pu_cnt l0 c 0) 0)) := ⟨by rw [hgm]; exact MapV.made w⟩
  have GEM : Aside0 (w.heap.size ≤ gm) := ⟨by rw [hgm]; exact Nat.le_refl _⟩
  rw [← hgm]
  have HB' := Aside0.mk (below_alloc HB.out (.map #[] 0))
  have wl0 : l0.length ≤ 1000000 := hn0
  clear hgm HB hmm
  go_loopg [19] l0.length (fun q v19 w' => ∃ (z : Int), v19 = .int .i64 z ∧ 0 ≤ z ∧ z ≤ 1000000 ∧ Aside0 (z + (q : Int) = (l0.length : Int)) ∧ Aside0 (MapV w' gm z.toNat (fun c => pv (pu_last l0 c z.toNat) 0 (pu_cnt l0 c z.toNat) 0)) ∧ Aside0 (Below w.heap.size w w'))
  case atStart => exact ⟨0, rfl, by omega, by omega, ⟨by omega⟩, HM0, HB'⟩
  case round =>
    clear HM0 HB'
    obtain ⟨z, rfl, hz0, hz1, HZ, HM, HB⟩ := hrel
    cases gk with
    | zero =>
      have hzl : decide (z < (l0.length : Int)) = false := decide_eq_false (by have := HZ.out; omega)
      have HMF : Aside0 (MapV wr gm (l0.length + 0) (fun c => pv (pu_last l0 c l0.length) (pu_last l1 c 0) (pu_cnt l0 c l0.length) (pu_cnt l1 c 0))) := ⟨by
        have h := HM.out
        have e : z.toNat = l0.length := by have := HZ.out; omega
        rw [e] at h
        exact h⟩
      have wl1 := hn1
      clear HM
      go_wp2
      clear hzl HZ hz0 hz1
      go_loopg [39] l1.length (fun q v39 w' => ∃ (z : Int), v39 = .int .i64 z ∧ 0 ≤ z ∧ z ≤ 1000000 ∧ Aside0 (z + (q : Int) = (l1.length : Int)) ∧ Aside0 (MapV w' gm (l0.length + z.toNat) (fun c => pv (pu_last l0 c l0.length) (pu_last l1 c z.toNat) (pu_cnt l0 c l0.length) (pu_cnt l1 c z.toNat))) ∧ Aside0 (Below w.heap.size w w'))
      case atStart => exact ⟨0, rfl, by omega, by omega, ⟨by omega⟩, HMF, HB⟩
      case round =>
        clear HMF HB
        obtain ⟨z, rfl, hz0, hz1, HZ, HM, HB⟩ := hrel
        cases gk with
        | zero =>
          have hzl : decide (z < (l1.length : Int)) = false := decide_eq_false (by have := HZ.out; omega)
          have HMF : Aside0 (MapV wr gm (l0.length + l1.length) (fun c => pv (pu_last l0 c l0.length) (pu_last l1 c l1.length) (pu_cnt l0 c l0.length) (pu_cnt l1 c l1.length))) := ⟨by
            have h := HM.out
            have e : z.toNat = l1.length := by have := HZ.out; omega
            rw [e] at h
            exact h⟩
          have HA0 : Aside0 (([] : List S27) ++ pu_rows l0 l1 l0.length (0 : Int).toNat = r) := HF
          clear HM
          go_wp2
          clear hzl HZ hz0 hz1
          go_loopg [59, 12] l0.length (fun q v59 v12 w' => ∃ (z : Int) (acc : List S27), v59 = .int .i64 z ∧ 0 ≤ z ∧ z ≤ 1000000 ∧ Aside0 (z + (q : Int) = (l0.length : Int)) ∧ Aside0 (acc.length ≤ z.toNat) ∧ Aside0 (acc ++ pu_rows l0 l1 q z.toNat = r) ∧ Aside0 (Kd.R k27 27 w' w.heap.size (fun _ => True) v12 acc) ∧ Aside0 (MapV w' gm (l0.length + l1.length) (fun c => pv (pu_last l0 c l0.length) (pu_last l1 c l1.length) (pu_cnt l0 c l0.length) (pu_cnt l1 c l1.length))) ∧ Aside0 (Below w.heap.size w w'))
          case atStart => exact ⟨0, [], rfl, by omega, by omega, ⟨by omega⟩, ⟨by simp⟩, HA0, ⟨Kd.R_nil _ _ _ _ _⟩, HMF, HB⟩
          case round =>
            clear HMF HB HA0
            obtain ⟨z, acc, rfl, hz0, hz1, HZ, HLA, HA, HR, HM, HB⟩ := hrel
            cases gk with
            | zero =>
              have hzl : decide (z < (l0.length : Int)) = false := decide_eq_false (by have := HZ.out; omega)
              have HAE : Aside0 (acc = r) := ⟨by have h := HA.out; rw [pu_rows, List.append_nil] at h; exact h⟩
              clear HA
              go_wp2
              go_ret
              exact ⟨_, rfl, by rw [← HAE.out]; exact HR.out, HB.out⟩
            | succ q1 =>
              have hzl : z < (l0.length : Int) := by have := HZ.out; omega
              have hzd : decide (z < (l0.length : Int)) = true := decide_eq_true hzl
              obtain ⟨ad0, ea0, hx0⟩ := Kd.at_int HR0.out z hz0 hzl
              cases ea0
              replace hx0 := (HB.out.cell (World.block_lt_of_cell? w _ hx0)).trans hx0
              have hwx : (Lit.int .i64 (rd l0 z)).wf = true := HW0.out _ (pu_rd_mem hz0 hzl)
              obtain ⟨ax, hax⟩ : ∃ ax, pu_last l0 (rd l0 z) l0.length = ax := ⟨_, rfl⟩
              obtain ⟨ay, hay⟩ : ∃ ay, pu_last l1 (rd l0 z) l1.length = ay := ⟨_, rfl⟩
              obtain ⟨nx, hnx⟩ : ∃ nx, pu_cnt l0 (rd l0 z) l0.length = nx := ⟨_, rfl⟩
              obtain ⟨ny, hny⟩ : ∃ ny, pu_cnt l1 (rd l0 z) l1.length = ny := ⟨_, rfl⟩
              have hlk : (Instr.lookup 51 (.map (some gm)) (.int .i64 (rd l0 z)) false).run Try.prog wr = .ok (.agg #[.int .i64 ax, .int .i64 ay, .int .i64 nx, .int .i64 ny]) wr := by
                have h : (Instr.lookup 51 (.map (some gm)) (.int .i64 (rd l0 z)) false).run Try.prog wr = .ok (.agg #[.int .i64 (pu_last l0 (rd l0 z) l0.length), .int .i64 (pu_last l1 (rd l0 z) l1.length), .int .i64 (pu_cnt l0 (rd l0 z) l0.length), .int .i64 (pu_cnt l1 (rd l0 z) l1.length)]) wr := HM.out.look (rd l0 z) hwx
                rw [hax, hay, hnx, hny] at h
                exact h
              have HSTEP : Aside0 (acc ++ ((if nx = 1 ∧ ny = 1 then [⟨z, ay⟩] else []) ++ pu_rows l0 l1 q1 (z + 1).toNat) = r) := ⟨by
                have h := HA.out
                rw [pu_rows, show l0.getD z.toNat 0 = rd l0 z from rfl, hnx, hny, hay] at h
                rw [show (z + 1).toNat = z.toNat + 1 from by omega, show (z : Int) = ((z.toNat : Nat) : Int) from by omega, Int.toNat_natCast]
                exact h⟩
              have HNX := Aside0.mk hnx
              clear HA hax hay hnx hny
              have p1 := eq_true hz0
              have p2 := eq_true hzl
              by_cases c1 : nx = 1
              · by_cases c2 : ny = 1
                · have b1 : (nx == 1) = true := beq_iff_eq.mpr c1
                  have b2 : (ny == 1) = true := beq_iff_eq.mpr c2
                  have HST : Aside0 (acc ++ [⟨z, ay⟩] ++ pu_rows l0 l1 q1 (z + 1).toNat = r) := ⟨by
                    have h := HSTEP.out
                    rw [if_pos ⟨c1, c2⟩] at h
                    rw [List.append_assoc]; exact h⟩
                  clear HSTEP c1 c2
                  go_wp2_with (first | ((with_reducible refine gate_dst (N := 15) rfl ?_); refine box_event ?hg (N := 15) ?hd (cs := #[.int .i64 0, .int .i64 0, .int .i64 0, .int .i64 0]) (t := 53) ?hr ?_; (case hd => rfl); (case hg => rfl); (case hr => first | (go_simp; done) | (go_simp; rfl)); intro gb15 hg w115 hbox hb; have n1_ := Aside0.mk (below_step HB.out hb); have n2_ := Aside0.mk (hg ▸ HB.out.size : w.heap.size ≤ gb15); have n3_ := Aside0.mk (MapV.same HM.out (hb.block gm HM.out.lt)); have n4_ := Aside0.mk (Kd.R_below HR.out hb); clear HB HM HR; have HB := n1_; have GE15 := n2_; have HM := n3_; have HR := n4_; have BK15 := Aside0.mk hbox; have NM15 := Aside0.mk (HM.out.ne hbox); clear hbox hb hg n1_ n2_ n3_ n4_ hlk; have f0 := blk_frozen BK15.out 0; have f1 := blk_frozen BK15.out 1; have f2 := blk_frozen BK15.out 2; have f3 := blk_frozen BK15.out 3; have g0 := (blk_cell BK15.out 0).trans rfl; have g1 := (blk_cell BK15.out 1).trans rfl; have g2 := (blk_cell BK15.out 2).trans rfl; have g3 := (blk_cell BK15.out 3).trans rfl) | ((with_reducible refine gate_dst (N := 78) rfl ?_); have n1_ : Aside0 (Kd.R k27 27 ((((w115.setCell ⟨gb15, 0, none⟩ (.int .i64 ax)).setCell ⟨gb15, 1, none⟩ (.int .i64 ay)).setCell ⟨gb15, 2, none⟩ (.int .i64 nx)).setCell ⟨gb15, 3, none⟩ (.int .i64 ny)) w.heap.size (fun _ => True) _ acc) := ⟨Kd.R_set (Kd.R_set (Kd.R_set (Kd.R_set HR.out BK15.out (by decide) 0 _) (blk_set BK15.out 0 _) (by decide) 1 _) (blk_set (blk_set BK15.out 0 _) 1 _) (by decide) 2 _) (blk_set (blk_set (blk_set BK15.out 0 _) 1 _) 2 _) (by decide) 3 _⟩; have n2_ : Aside0 (MapV ((((w115.setCell ⟨gb15, 0, none⟩ (.int .i64 ax)).setCell ⟨gb15, 1, none⟩ (.int .i64 ay)).setCell ⟨gb15, 2, none⟩ (.int .i64 nx)).setCell ⟨gb15, 3, none⟩ (.int .i64 ny)) gm (l0.length + l1.length) (fun c => pv (pu_last l0 c l0.length) (pu_last l1 c l1.length) (pu_cnt l0 c l0.length) (pu_cnt l1 c l1.length))) := ⟨(((HM.out.set NM15.out _).set NM15.out _).set NM15.out _).set NM15.out _⟩; have n3_ : Aside0 (Below w.heap.size w ((((w115.setCell ⟨gb15, 0, none⟩ (.int .i64 ax)).setCell ⟨gb15, 1, none⟩ (.int .i64 ay)).setCell ⟨gb15, 2, none⟩ (.int .i64 nx)).setCell ⟨gb15, 3, none⟩ (.int .i64 ny))) := ⟨below_set (below_set (below_set (below_set HB.out GE15.out) GE15.out) GE15.out) GE15.out⟩; have n4_ : Aside0 (((((w115.setCell ⟨gb15, 0, none⟩ (.int .i64 ax)).setCell ⟨gb15, 1, none⟩ (.int .i64 ay)).setCell ⟨gb15, 2, none⟩ (.int .i64 nx)).setCell ⟨gb15, 3, none⟩ (.int .i64 ny)).heap[gb15]? = some (.cells #[.int .i64 ax, .int .i64 ay, .int .i64 nx, .int .i64 ny] 53 (0, 0))) := ⟨blk_set (blk_set (blk_set (blk_set BK15.out 0 _) 1 _) 2 _) 3 _⟩; clear HR HM HB BK15 NM15 f0 f1 f2 f3 g0 g1 g2 g3; generalize ((((w115.setCell ⟨gb15, 0, none⟩ (.int .i64 ax)).setCell ⟨gb15, 1, none⟩ (.int .i64 ay)).setCell ⟨gb15, 2, none⟩ (.int .i64 nx)).setCell ⟨gb15, 3, none⟩ (.int .i64 ny)) = w5 at n1_ n2_ n3_ n4_ ⊢; have HR := n1_; have HM := n2_; have HB := n3_; have BK5 := n4_; clear n1_ n2_ n3_ n4_; have g1 := (blk_cell BK5.out 1).trans (show _ = some (Value.int .i64 ay) from rfl)) | ((with_reducible refine gate_builtin (b := .append) (xs := #[.tmp 75, .tmp 80]) rfl ?_); at_builtin; refine Kd.R_append k27 (w0 := w) w.heap.size rfl (.tmp 75) (.tmp 80) 24 27 (.agg #[(.int .i64 0), (.int .i64 0)]) 16 rfl Try.underlying24 info27 rfl (by decide) (by omega) _ acc (⟨z, ay⟩ : S27) [.int .i64 z, .int .i64 ay] (fun _ => True) (fun _ => False) rfl rfl ?aP (fun _ hk => hk.elim) ?aF ?aO ?aB ?aS ?aL ?_; (case aP => exact k27_mkM _ _ _ (⟨z, ay⟩ : S27)); (case aB => exact HB.out); (case aF => exact (fun _ _ => trivial)); (case aO => exact HR.out); (case aS => exact HB.out.size); (case aL => have := HLA.out; omega); intro v1 w1 ho hb hg hat; have HO := Aside0.mk ho; have HBn := Aside0.mk hb; have HMn := Aside0.mk (HM.out.app HR.out hg); clear ho hb hg hat g1 HR HM HB BK5))
                  go_roundg q1
                  case measure => omega
                  case rel => exact ⟨z + 1, acc ++ [⟨z, ay⟩], by go_num, by omega, by omega, ⟨by have := HZ.out; omega⟩, ⟨by have := HLA.out; rw [List.length_append, List.length_singleton]; omega⟩, HST, HO, HMn, HBn⟩
                · have b1 : (nx == 1) = true := beq_iff_eq.mpr c1
                  have b2 : (ny == 1) = false := beq_eq_false_iff_ne.mpr c2
                  have HST : Aside0 (acc ++ pu_rows l0 l1 q1 (z + 1).toNat = r) := ⟨by
                    have h := HSTEP.out
                    rw [if_neg (fun e => c2 e.2), List.nil_append] at h
                    exact h⟩
                  clear HSTEP c1 c2
                  go_wp2_with (first | ((with_reducible refine gate_dst (N := 15) rfl ?_); refine box_event ?hg (N := 15) ?hd (cs := #[.int .i64 0, .int .i64 0, .int .i64 0, .int .i64 0]) (t := 53) ?hr ?_; (case hd => rfl); (case hg => rfl); (case hr => first | (go_simp; done) | (go_simp; rfl)); intro gb15 hg w115 hbox hb; have n1_ := Aside0.mk (below_step HB.out hb); have n2_ := Aside0.mk (hg ▸ HB.out.size : w.heap.size ≤ gb15); have n3_ := Aside0.mk (MapV.same HM.out (hb.block gm HM.out.lt)); have n4_ := Aside0.mk (Kd.R_below HR.out hb); clear HB HM HR; have HB := n1_; have GE15 := n2_; have HM := n3_; have HR := n4_; have BK15 := Aside0.mk hbox; have NM15 := Aside0.mk (HM.out.ne hbox); clear hbox hb hg n1_ n2_ n3_ n4_ hlk; have f0 := blk_frozen BK15.out 0; have f1 := blk_frozen BK15.out 1; have f2 := blk_frozen BK15.out 2; have f3 := blk_frozen BK15.out 3; have g0 := (blk_cell BK15.out 0).trans rfl; have g1 := (blk_cell BK15.out 1).trans rfl; have g2 := (blk_cell BK15.out 2).trans rfl; have g3 := (blk_cell BK15.out 3).trans rfl))
                  go_roundg q1
                  case measure => omega
                  case rel => exact ⟨z + 1, acc, by go_num, by omega, by omega, ⟨by have := HZ.out; omega⟩, ⟨by have := HLA.out; omega⟩, HST, ⟨Kd.R_set (Kd.R_set (Kd.R_set (Kd.R_set HR.out BK15.out (by decide) 0 _) (blk_set BK15.out 0 _) (by decide) 1 _) (blk_set (blk_set BK15.out 0 _) 1 _) (by decide) 2 _) (blk_set (blk_set (blk_set BK15.out 0 _) 1 _) 2 _) (by decide) 3 _⟩, ⟨(((HM.out.set NM15.out _).set NM15.out _).set NM15.out _).set NM15.out _⟩, ⟨below_set (below_set (below_set (below_set HB.out GE15.out) GE15.out) GE15.out) GE15.out⟩⟩
              · have b1 : (nx == 1) = false := beq_eq_false_iff_ne.mpr c1
                have HST : Aside0 (acc ++ pu_rows l0 l1 q1 (z + 1).toNat = r) := ⟨by
                  have h := HSTEP.out
                  rw [if_neg (fun e => c1 e.1), List.nil_append] at h
                  exact h⟩
                clear HSTEP c1
                go_wp2_with (first | ((with_reducible refine gate_dst (N := 15) rfl ?_); refine box_event ?hg (N := 15) ?hd (cs := #[.int .i64 0, .int .i64 0, .int .i64 0, .int .i64 0]) (t := 53) ?hr ?_; (case hd => rfl); (case hg => rfl); (case hr => first | (go_simp; done) | (go_simp; rfl)); intro gb15 hg w115 hbox hb; have n1_ := Aside0.mk (below_step HB.out hb); have n2_ := Aside0.mk (hg ▸ HB.out.size : w.heap.size ≤ gb15); have n3_ := Aside0.mk (MapV.same HM.out (hb.block gm HM.out.lt)); have n4_ := Aside0.mk (Kd.R_below HR.out hb); clear HB HM HR; have HB := n1_; have GE15 := n2_; have HM := n3_; have HR := n4_; have BK15 := Aside0.mk hbox; have NM15 := Aside0.mk (HM.out.ne hbox); clear hbox hb hg n1_ n2_ n3_ n4_ hlk; have f0 := blk_frozen BK15.out 0; have f1 := blk_frozen BK15.out 1; have f2 := blk_frozen BK15.out 2; have f3 := blk_frozen BK15.out 3; have g0 := (blk_cell BK15.out 0).trans rfl; have g1 := (blk_cell BK15.out 1).trans rfl; have g2 := (blk_cell BK15.out 2).trans rfl; have g3 := (blk_cell BK15.out 3).trans rfl))
                go_roundg q1
                case measure => omega
                case rel => exact ⟨z + 1, acc, by go_num, by omega, by omega, ⟨by have := HZ.out; omega⟩, ⟨by have := HLA.out; omega⟩, HST, ⟨Kd.R_set (Kd.R_set (Kd.R_set (Kd.R_set HR.out BK15.out (by decide) 0 _) (blk_set BK15.out 0 _) (by decide) 1 _) (blk_set (blk_set BK15.out 0 _) 1 _) (by decide) 2 _) (blk_set (blk_set (blk_set BK15.out 0 _) 1 _) 2 _) (by decide) 3 _⟩, ⟨(((HM.out.set NM15.out _).set NM15.out _).set NM15.out _).set NM15.out _⟩, ⟨below_set (below_set (below_set (below_set HB.out GE15.out) GE15.out) GE15.out) GE15.out⟩⟩
        | succ q1 =>
          have hzl : z < (l1.length : Int) := by have := HZ.out; omega
          have hzd : decide (z < (l1.length : Int)) = true := decide_eq_true hzl
          obtain ⟨ad0, ea0, hx0⟩ := Kd.at_int HR1.out z hz0 hzl
          cases ea0
          replace hx0 := (HB.out.cell (World.block_lt_of_cell? w _ hx0)).trans hx0
          have hwx : (Lit.int .i64 (rd l1 z)).wf = true := HW1.out _ (pu_rd_mem hz0 hzl)
          have hlk : (Instr.lookup 51 (.map (some gm)) (.int .i64 (rd l1 z)) false).run Try.prog wr = .ok (.agg #[.int .i64 (pu_last l0 (rd l1 z) l0.length), .int .i64 (pu_last l1 (rd l1 z) z.toNat), .int .i64 (pu_cnt l0 (rd l1 z) l0.length), .int .i64 (pu_cnt l1 (rd l1 z) z.toNat)]) wr := HM.out.look (rd l1 z) hwx
          have HBD := Aside0.mk (pu_cnt_bd l1 (rd l1 z) z.toNat)
          have p1 := eq_true hz0
          have p2 := eq_true hzl
          go_wp2_with (first | ((with_reducible refine gate_dst (N := 11) rfl ?_); refine box_event ?hg (N := 11) ?hd (cs := #[.int .i64 0, .int .i64 0, .int .i64 0, .int .i64 0]) (t := 53) ?hr ?_; (case hd => rfl); (case hg => rfl); (case hr => first | (go_simp; done) | (go_simp; rfl)); intro gb11 hg w111 hbox hb; have n1_ := Aside0.mk (below_step HB.out hb); have n2_ := Aside0.mk (hg ▸ HB.out.size : w.heap.size ≤ gb11); have n3_ := Aside0.mk (MapV.same HM.out (hb.block gm HM.out.lt)); clear HB HM; have HB := n1_; have GE11 := n2_; have HM := n3_; have BK11 := Aside0.mk hbox; have NM11 := Aside0.mk (HM.out.ne hbox); clear hbox hb hg n1_ n2_ n3_ hlk; have f0 := blk_frozen BK11.out 0; have f1 := blk_frozen BK11.out 1; have f2 := blk_frozen BK11.out 2; have f3 := blk_frozen BK11.out 3; have g0 := (blk_cell BK11.out 0).trans rfl; have g1 := (blk_cell BK11.out 1).trans rfl; have g2 := (blk_cell BK11.out 2).trans rfl; have g3 := (blk_cell BK11.out 3).trans rfl) | ((with_reducible refine gate_dst (N := 55) rfl ?_); refine Kd.event_run rfl (pv_load (x := pu_last l0 (rd l1 z) l0.length) (y := z) (n := pu_cnt l0 (rd l1 z) l0.length) (m := wrap64 (pu_cnt l1 (rd l1 z) z.toNat + 1)) (blk_set (blk_set (blk_set (blk_set (blk_set (blk_set BK11.out 0 _) 1 _) 2 _) 3 _) 1 _) 3 _) rfl rfl) ?_) | (at_mapUpdate; go_loud (refine MapV.put_event rfl rfl _ _ _ rfl rfl (((((((HM.out.set NM11.out _).set NM11.out _).set NM11.out _).set NM11.out _).set NM11.out _).set NM11.out _)) (by unfold maxLen; omega) (rd l1 z) (pv (pu_last l0 (rd l1 z) l0.length) z (pu_cnt l0 (rd l1 z) l0.length) (wrap64 (pu_cnt l1 (rd l1 z) z.toNat + 1))) rfl rfl hwx ?_); intro w7 hm7 hg7; have HM7 := Aside0.mk hm7; have HG7 := Aside0.mk hg7; clear hm7 hg7))
          go_roundg q1
          case measure => omega
          case rel =>
            refine ⟨z + 1, by go_num, by omega, by omega, ⟨by have := HZ.out; omega⟩, ⟨?_⟩, ⟨pw_below_grown (below_set (below_set (below_set (below_set (below_set (below_set HB.out GE11.out) GE11.out) GE11.out) GE11.out) GE11.out) GE11.out) (some gm) (below_set (below_set (below_set (below_set (below_set (below_set HB.out GE11.out) GE11.out) GE11.out) GE11.out) GE11.out) GE11.out).size HG7.out (by intro k e; injection e with e; rw [← e]; exact GEM.out)⟩⟩
            have h1 := HBD.out
            refine MapV.congr HM7.out (by omega) (fun q => ?_)
            rw [show (z + 1).toNat = z.toNat + 1 from by omega, pu_last, pu_cnt, show l1.getD z.toNat 0 = rd l1 z from rfl]
            by_cases e : q = rd l1 z
            · subst e
              rw [if_pos rfl, if_pos rfl, if_pos rfl, show ((z.toNat : Nat) : Int) = z from by omega, show wrap64 (pu_cnt l1 (rd l1 z) z.toNat + 1) = pu_cnt l1 (rd l1 z) z.toNat + 1 from by unfold wrap64; omega]
            · rw [if_neg e, if_neg (fun e2 => e e2.symm), if_neg (fun e2 => e e2.symm), Int.add_zero]
    | succ q1 =>
      have hzl : z < (l0.length : Int) := by have := HZ.out; omega
      have hzd : decide (z < (l0.length : Int)) = true := decide_eq_true hzl
      obtain ⟨ad0, ea0, hx0⟩ := Kd.at_int HR0.out z hz0 hzl
      cases ea0
      replace hx0 := (HB.out.cell (World.block_lt_of_cell? w _ hx0)).trans hx0
      have hwx : (Lit.int .i64 (rd l0 z)).wf = true := HW0.out _ (pu_rd_mem hz0 hzl)
      have hlk : (Instr.lookup 51 (.map (some gm)) (.int .i64 (rd l0 z)) false).run Try.prog wr = .ok (.agg #[.int .i64 (pu_last l0 (rd l0 z) z.toNat), .int .i64 0, .int .i64 (pu_cnt l0 (rd l0 z) z.toNat), .int .i64 0]) wr := HM.out.look (rd l0 z) hwx
      have HBD := Aside0.mk (pu_cnt_bd l0 (rd l0 z) z.toNat)
      have p1 := eq_true hz0
      have p2 := eq_true hzl
      go_wp2_with (first | ((with_reducible refine gate_dst (N := 8) rfl ?_); refine box_event ?hg (N := 8) ?hd (cs := #[.int .i64 0, .int .i64 0, .int .i64 0, .int .i64 0]) (t := 53) ?hr ?_; (case hd => rfl); (case hg => rfl); (case hr => first | (go_simp; done) | (go_simp; rfl)); intro gb8 hg w108 hbox hb; have n1_ := Aside0.mk (below_step HB.out hb); have n2_ := Aside0.mk (hg ▸ HB.out.size : w.heap.size ≤ gb8); have n3_ := Aside0.mk (MapV.same HM.out (hb.block gm HM.out.lt)); clear HB HM; have HB := n1_; have GE8 := n2_; have HM := n3_; have BK8 := Aside0.mk hbox; have NM8 := Aside0.mk (HM.out.ne hbox); clear hbox hb hg n1_ n2_ n3_ hlk; have f0 := blk_frozen BK8.out 0; have f1 := blk_frozen BK8.out 1; have f2 := blk_frozen BK8.out 2; have f3 := blk_frozen BK8.out 3; have g0 := (blk_cell BK8.out 0).trans rfl; have g1 := (blk_cell BK8.out 1).trans rfl; have g2 := (blk_cell BK8.out 2).trans rfl; have g3 := (blk_cell BK8.out 3).trans rfl) | ((with_reducible refine gate_dst (N := 35) rfl ?_); refine Kd.event_run rfl (pv_load (x := z) (y := 0) (n := wrap64 (pu_cnt l0 (rd l0 z) z.toNat + 1)) (m := 0) (blk_set (blk_set (blk_set (blk_set (blk_set (blk_set BK8.out 0 _) 1 _) 2 _) 3 _) 0 _) 2 _) rfl rfl) ?_) | (at_mapUpdate; go_loud (refine MapV.put_event rfl rfl _ _ _ rfl rfl (((((((HM.out.set NM8.out _).set NM8.out _).set NM8.out _).set NM8.out _).set NM8.out _).set NM8.out _)) (by unfold maxLen; omega) (rd l0 z) (pv z 0 (wrap64 (pu_cnt l0 (rd l0 z) z.toNat + 1)) 0) rfl rfl hwx ?_); intro w7 hm7 hg7; have HM7 := Aside0.mk hm7; have HG7 := Aside0.mk hg7; clear hm7 hg7))
      go_roundg q1
      case measure => omega
      case rel =>
        refine ⟨z + 1, by go_num, by omega, by omega, ⟨by have := HZ.out; omega⟩, ⟨?_⟩, ⟨pw_below_grown (below_set (below_set (below_set (below_set (below_set (below_set HB.out GE8.out) GE8.out) GE8.out) GE8.out) GE8.out) GE8.out) (some gm) (below_set (below_set (below_set (below_set (below_set (below_set HB.out GE8.out) GE8.out) GE8.out) GE8.out) GE8.out) GE8.out).size HG7.out (by intro k e; injection e with e; rw [← e]; exact GEM.out)⟩⟩
        have h1 := HBD.out
        refine MapV.congr HM7.out (by omega) (fun q => ?_)
        rw [show (z + 1).toNat = z.toNat + 1 from by omega, pu_last, pu_cnt, show l0.getD z.toNat 0 = rd l0 z from rfl]
        by_cases e : q = rd l0 z
        · subst e
          rw [if_pos rfl, if_pos rfl, if_pos rfl, show ((z.toNat : Nat) : Int) = z from by omega, show wrap64 (pu_cnt l0 (rd l0 z) z.toNat + 1) = pu_cnt l0 (rd l0 z) z.toNat + 1 from by unfold wrap64; omega]
        · rw [if_neg e, if_neg (fun e2 => e e2.symm), if_neg (fun e2 => e e2.symm), Int.add_zero]
end Go.Proofs.Ytonbplflmdpikaa.X
