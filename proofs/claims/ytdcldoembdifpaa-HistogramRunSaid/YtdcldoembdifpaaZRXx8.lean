-- printed by xprint.py, a program of this session's own over the kit's print
import Derived.Test.YtdcldoembdifpaaZRXx0
import Derived.Test.YtdcldoembdifpaaZRXx7
import Derived.Maps.OwnOps
import Derived.Maps.Views
namespace Go.Proofs.Ytdcldoembdifpaa.X
open Go.RowKit Go.Proofs.YtdcldoembdifpaaW.PrintWords Go.Proofs.YtdcldoembdifpaaW.PrintLast Go.Proofs.YtdcldoembdifpaaW.PrintMore
attribute [local go_sem] max2_int min2_int max_two min_two max_three min_three max_four min_four   -- for this text's walks alone
open Go.Proofs.YtdcldoembdifpaaW.HandWords
set_option linter.unusedVariables false
set_option linter.unusedSimpArgs false
/-! ### histogram_Best: by hand -/
/-- how often c stands among these, as the map of counts has it -/
def hb_cnt : List Int → Int → Int
  | [], _ => 0
  | x :: r, c => (if x = c then 1 else 0) + hb_cnt r c
/-- the run that begins at i and j: how long, how rare -/
def hb_run (x y : List Int) (i j : Nat) : Nat → Nat → Int → Nat × Int
  | 0, n, rare => (n, rare)
  | q + 1, n, rare => if i + n < x.length ∧ j + n < y.length ∧ x.getD (i + n) 0 = y.getD (j + n) 0 then hb_run x y i j q (n + 1) (mn rare (hb_cnt x (x.getD (i + n) 0))) else (n, rare)
abbrev HbSt := Int × Int × Int × Int × Bool
def hb_fin (s : HbSt) (i j : Nat) (r : Nat × Int) : HbSt :=
  if s.2.2.2.2 = false ∨ (if r.2 = s.2.2.2.1 then (r.1 : Int) > s.2.2.1 else r.2 < s.2.2.2.1) then (i, j, r.1, r.2, true) else s
def hb_step (x y : List Int) (i j : Nat) (s : HbSt) : HbSt :=
  if x.getD i 0 ≠ y.getD j 0 ∨ (0 < i ∧ 0 < j ∧ x.getD (i - 1) 0 = y.getD (j - 1) 0) then s
  else hb_fin s i j (hb_run x y i j (x.length - i) 0 (hb_cnt x (y.getD j 0)))
def hb_js (x y : List Int) (i : Nat) : Nat → Nat → HbSt → HbSt
  | 0, _, s => s
  | q + 1, j, s => hb_js x y i q (j + 1) (hb_step x y i j s)
def hb_is (x y : List Int) : Nat → Nat → HbSt → HbSt
  | 0, _, s => s
  | q + 1, i, s => hb_is x y q (i + 1) (hb_js x y i y.length 0 s)
def histogram_Best.f (l0 l1 : List Int) : Option (Int × Int × Int × Int × Bool) :=
  if l0.length ≤ 1000000 ∧ l1.length ≤ 1000000 ∧ (∀ x ∈ l0, (Lit.int .i64 x).wf = true) ∧ (∀ x ∈ l1, (Lit.int .i64 x).wf = true) then some (hb_is l0 l1 l0.length 0 (0, 0, 0, 0, false)) else none
def hb_iff (b : Bool) (p : Prop) : Prop := b = true ↔ p
theorem hb_int_keyed : Go.Maps.Keyed Try.prog 3 := Go.Maps.int_keyed Try.underlying3
theorem hb_zero (w : World) : (zeroValue 3).run Try.prog w = .ok (.int .i64 0) w := by kernel_rfl
/-- block g is a map of at most n whole numbers, that has f c at c -/
def MapI (W : World) (g n : Nat) (f : Int → Int) : Prop := ∃ D : DataW Unit, Go.Maps.IsMap D ∧ W.ownsMap Try.prog 3 (plainElem Try.prog 3) g n D ∧ ∀ c, (Lit.int .i64 c).wf = true → D.atKey (.int .i64 c) (.lit (.int .i64 0)) = .lit (.int .i64 (f c))
theorem MapI.made (W : World) : MapI (W.alloc (.map #[] 0)) W.heap.size 0 (fun _ => 0) := ⟨.map [], Go.Maps.isMap_empty, World.ownsMap_made _ _ _ _, fun _ _ => rfl⟩
theorem MapI.kept {W W' : World} {g n : Nat} {f : Int → Int} {row : Option Nat} (h : MapI W g n f) (hg : W.grownBy W' row) (hne : some g ≠ row) : MapI W' g n f := by
  obtain ⟨D, h1, h2, h3⟩ := h
  exact ⟨D, h1, h2.kept hg hne, h3⟩
theorem MapI.drewN {W : World} {g n : Nat} {f : Int → Int} (h : MapI W g n f) (k : Nat) : MapI (W.drewN k) g n f := h.kept (grown_of_below (pw_below_drewN (Below.refl _ _) _) none) (by simp)
theorem MapI.drew {W : World} {g n : Nat} {f : Int → Int} (h : MapI W g n f) : MapI W.drew g n f := h.kept (grown_of_below (below_drew1 (Below.refl _ _)) none) (by simp)
theorem MapI.same {W W' : World} {g n : Nat} {f : Int → Int} (h : MapI W g n f) (e : W'.heap[g]? = W.heap[g]?) : MapI W' g n f := by
  obtain ⟨D, h1, ⟨es, clock, h2, h4⟩, h3⟩ := h
  exact ⟨D, h1, ⟨es, clock, e.trans h2, h4⟩, h3⟩
theorem MapI.set {W : World} {g n : Nat} {f : Int → Int} (h : MapI W g n f) {p : Addr} (hp : g ≠ p.block) (u : Value) : MapI (W.setCell p u) g n f := h.same (Below.heap_setCell W p u g hp)
theorem MapI.ne {W : World} {g n k : Nat} {f : Int → Int} {cs : Array Value} {t : TypeId} {fr : Nat × Nat} (h : MapI W g n f) (hk : W.heap[k]? = some (.cells cs t fr)) : g ≠ k := by
  obtain ⟨D, h1, ⟨es, clock, h2, h4⟩, h3⟩ := h
  rintro rfl
  rw [hk] at h2
  cases h2
theorem MapI.congr {W : World} {g n : Nat} {f f' : Int → Int} (h : MapI W g n f) (e : ∀ c, f c = f' c) : MapI W g n f' := by
  obtain rfl : f = f' := funext e
  exact h
theorem MapI.lt {W : World} {g n : Nat} {f : Int → Int} (h : MapI W g n f) : g < W.heap.size := by
  obtain ⟨D, h1, h2, h3⟩ := h
  exact h2.lt
theorem MapI.look {W : World} {g n : Nat} {f : Int → Int} (h : MapI W g n f) (c : Int) (hc : (Lit.int .i64 c).wf = true) : (Instr.lookup 48 (.map (some g)) (.int .i64 c) false).run Try.prog W = .ok (.int .i64 (f c)) W := by
  obtain ⟨D, h1, h2, h3⟩ := h
  obtain ⟨c', hrun, hat, _⟩ := h2.lookup_int hb_int_keyed Try.underlying48 Try.underlying3 (hb_zero _) (Go.Maps.keyOf_int_mk Try.underlying3 hc)
  rw [h3 c hc] at hat
  injection hat with hat
  injection hat with _ hat
  rw [hat]; exact hrun
theorem MapI.put_event {P : Program} (hP : P = Try.prog) {W : World} {ops : Array Oper} {rest : List Oper} {o : Oper} {a : Act} {Q : Exit → Act → World → Prop} (hg : o.guard = none) (m x v : Operand) (hop : o.op = Op.mapUpdate 48 m x v)
    {g n : Nat} {f : Int → Int} (hm : a.eval m = .map (some g)) (h : MapI W g n f) (hn : n < maxLen) (c d : Int) (hx : a.eval x = .int .i64 c) (hv : a.eval v = .int .i64 d) (hc : (Lit.int .i64 c).wf = true) (hd : (Lit.int .i64 d).wf = true)
    (hK : ∀ w', MapI w' g (n + 1) (fun q => if q = c then d else f q) → W.grownBy w' (some g) → wpList P ops Q rest (a.put o.dst undef) w') : wpList P ops Q (o :: rest) a W := by
  subst hP
  obtain ⟨D, h1, h2, h3⟩ := h
  refine wpList_mapUpdate_own W hg m x v 48 hop 3 3 hb_int_keyed Try.underlying48 (plainElem Try.prog 3) g n D hm h2 hn _ _ (.int .i64 c) hx hv (Go.Maps.keyOf_int_mk Try.underlying3 hc) (.lit (.int .i64 d)) [] (plainElem_int Try.underlying3 hd) ?_
  intro w' h4 h5
  refine hK w' ⟨D.put (.int .i64 c) (.lit (.int .i64 d)), h1.put _ _, h4, ?_⟩ h5
  intro q hq
  by_cases e : q = c
  · subst e
    rw [Go.Maps.atKey_put_same h1 (by exact trivial)]; dsimp only; rw [if_pos rfl]
  · rw [Go.Maps.atKey_put_other (by intro h; injection h with _ h; exact e h)]; dsimp only; rw [if_neg e]
    exact h3 q hq
theorem hb_cnt_take (x : List Int) (k : Nat) (hk : k < x.length) (c : Int) : hb_cnt (x.take (k + 1)) c = hb_cnt (x.take k) c + (if x.getD k 0 = c then 1 else 0) := by
  induction x generalizing k with
  | nil => simp at hk
  | cons a r ih =>
    cases k with
    | zero => simp [hb_cnt]
    | succ k => simp only [List.take_succ_cons, hb_cnt, List.getD_cons_succ]; rw [ih k (by simpa using hk)]; omega
theorem rd_mem {x : List Int} {z : Int} (h0 : 0 ≤ z) (h1 : z < (x.length : Int)) : rd x z ∈ x := by
  have h : z.toNat < x.length := by omega
  unfold rd
  rw [List.getD_eq_getElem?_getD, List.getElem?_eq_getElem h]
  exact List.getElem_mem h
theorem hb_cnt_bound (x : List Int) (c : Int) : 0 ≤ hb_cnt x c ∧ hb_cnt x c ≤ x.length := by
  induction x with
  | nil => simp [hb_cnt]
  | cons a r ih => simp only [hb_cnt, List.length_cons]; split <;> omega
set_option maxHeartbeats 2000000 in
set_option maxRecDepth 100000 in
theorem histogram_Best.calls (A0 : Option Addr) (c0 : Nat) (l0 : List Int) (A1 : Option Addr) (c1 : Nat) (l1 : List Int) (r1 r2 r3 r4 : Int) (r5 : Bool) (w : World) (hr0 : Kd.C (Kd.int .i64) w A0 l0.length l0) (hc0 : l0.length ≤ c0) (hr1 : Kd.C (Kd.int .i64) w A1 l1.length l1) (hc1 : l1.length ≤ c1) (h : histogram_Best.f l0 l1 = some (r1, r2, r3, r4, r5)) :
    Calls Try.prog 18 #[.slice A0 l0.length c0, .slice A1 l1.length c1] w fun e w' => e = .returned (.tuple #[.agg #[.int .i64 r1, .int .i64 r2, .int .i64 r3, .int .i64 r4], .bool r5]) ∧ Below w.heap.size w w' := by
  unfold histogram_Best.f at h
  by_cases hlen : l0.length ≤ 1000000 ∧ l1.length ≤ 1000000 ∧ (∀ x ∈ l0, (Lit.int .i64 x).wf = true) ∧ (∀ x ∈ l1, (Lit.int .i64 x).wf = true)
  case neg => rw [if_neg hlen] at h; cases h
  rw [if_pos hlen] at h
  obtain ⟨hn0, hn1, hwf0, hwf1⟩ := hlen
  have HF := Aside0.mk (Option.some.inj h)
  clear h
  have HW0 := Aside0.mk hwf0
  have HW1 := Aside0.mk hwf1
  clear hwf0 hwf1
  have HR0 := Aside0.mk hr0
  have HC0 := Aside0.mk hc0
  clear hr0 hc0
  have HR1 := Aside0.mk hr1
  have HC1 := Aside0.mk hc1
  clear hr1 hc1
  have hu27 := Try.underlying27
  have hmm := @run_makeMap Try.prog
  have HB := Aside0.mk (Below.refl w.heap.size w)
  go_enter Try.func18, Try.ntmps18
  go_wp2_with (first | ((with_reducible refine gate_dst (N := 4) rfl ?_); refine box_event ?hg (N := 4) ?hd (cs := #[.int .i64 0, .int .i64 0, .int .i64 0, .int .i64 0]) (t := 27) ?hr ?_; (case hd => rfl); (case hg => rfl); (case hr => first | (go_simp; done) | (go_simp; rfl)); intro gb4 hg w6 hbox hb; have n1_ := Aside0.mk (below_step HB.out hb); clear HB; have HB := n1_; have BK4 := Aside0.mk hbox; clear hbox; have GE4 := Aside0.mk (by rw [hg]; exact Nat.le_refl _ : w.heap.size ≤ gb4); clear hg hb n1_))
  have GM := blk_lt BK4.out
  obtain ⟨gm, hgm⟩ : ∃ gm, gm = w6.heap.size := ⟨_, rfl⟩
  have HM0 : Aside0 (MapI (w6.alloc (.map #[] 0)) gm 0 (fun c => hb_cnt (l0.take 0) c)) := ⟨by rw [hgm]; exact MapI.made w6⟩
  have GEM : Aside0 (w.heap.size ≤ gm) := ⟨by rw [hgm]; exact HB.out.size⟩
  have NE4 : Aside0 (gb4 ≠ gm) := ⟨by rw [hgm]; omega⟩
  rw [← hgm]
  have BK4' := Aside0.mk (blk_alloc BK4.out (.map #[] 0))
  have HB' := Aside0.mk (below_alloc HB.out (.map #[] 0))
  have wl0 : l0.length ≤ 1000000 := hn0
  clear GM hgm BK4 HB hmm
  go_loopg [18] l0.length (fun q v18 w' => ∃ (z : Int), v18 = .int .i64 z ∧ 0 ≤ z ∧ z ≤ 1000000 ∧ Aside0 (z + (q : Int) = (l0.length : Int)) ∧ Aside0 (MapI w' gm z.toNat (fun c => hb_cnt (l0.take z.toNat) c)) ∧ Aside0 (w'.heap[gb4]? = some (.cells #[.int .i64 0, .int .i64 0, .int .i64 0, .int .i64 0] 27 (0, 0))) ∧ Aside0 (Below w.heap.size w w'))
  case atStart => exact ⟨0, rfl, by omega, by omega, ⟨by omega⟩, HM0, BK4', HB'⟩
  case round =>
    clear HM0 BK4' HB'
    obtain ⟨z, rfl, hz0, hz1, HZ, HM, BK4, HB⟩ := hrel
    cases gk with
    | zero =>
      have hzl : decide (z < (l0.length : Int)) = false := decide_eq_false (by have := HZ.out; omega)
      have HMF : Aside0 (MapI wr gm z.toNat (hb_cnt l0)) := ⟨by
        have h := HM.out
        have e : z.toNat = l0.length := by have := HZ.out; omega
        rw [e, List.take_of_length_le (Nat.le_refl _)] at h
        rw [e]; exact h⟩
      clear HM
      have wl1 := hn1
      go_wp2_with (first | ((with_reducible refine gate_dst (N := 9) rfl ?_); refine box_event ?hg (N := 9) ?hd (cs := #[.int .i64 0, .int .i64 0, .int .i64 0, .int .i64 0]) (t := 27) ?hr ?_; (case hd => rfl); (case hg => rfl); (case hr => first | (go_simp; done) | (go_simp; rfl)); intro gb9 hg w8 hbox hb; have n1_ := Aside0.mk (below_step HB.out hb); have n2_ := Aside0.mk (hg ▸ HB.out.size : w.heap.size ≤ gb9); have n3_ := Aside0.mk (MapI.same HMF.out (hb.block gm HMF.out.lt)); have n4_ := Aside0.mk (blk_below BK4.out hb); have n5_ := Aside0.mk (show gb4 ≠ gb9 from by have h := blk_lt BK4.out; omega); clear HB HMF BK4; have HB := n1_; have GE9 := n2_; have HM := n3_; have BK4 := n4_; have NE49 := n5_; have BK9 := Aside0.mk hbox; clear hbox hb hg n1_ n2_ n3_ n4_ n5_))
      have HNM9 := Aside0.mk (HM.out.ne BK9.out)
      have HAi : Aside0 (hb_is l0 l1 l0.length 0 (0, 0, 0, 0, false) = (r1, r2, r3, r4, r5)) := HF
      obtain ⟨NM, hNM⟩ : ∃ NM, NM = z.toNat := ⟨_, rfl⟩
      rw [← hNM] at HM
      clear hNM HZ hzl hz0 hz1 HF
      go_loopg [29, 10] l0.length (fun q v29 v10 w' => ∃ (zi : Int) (b1 b2 b3 b4 : Int) (b5 : Bool), v29 = .int .i64 zi ∧ v10 = .bool b5 ∧ 0 ≤ zi ∧ zi ≤ 1000000 ∧ Aside0 (zi + (q : Int) = (l0.length : Int)) ∧ Aside0 (hb_is l0 l1 q zi.toNat (b1, b2, b3, b4, b5) = (r1, r2, r3, r4, r5)) ∧ Aside0 (MapI w' gm NM (hb_cnt l0)) ∧ Aside0 (w'.heap[gb4]? = some (.cells #[.int .i64 0, .int .i64 0, .int .i64 0, .int .i64 0] 27 (0, 0))) ∧ Aside0 (w'.heap[gb9]? = some (.cells #[.int .i64 b1, .int .i64 b2, .int .i64 b3, .int .i64 b4] 27 (0, 0))) ∧ Aside0 (Below w.heap.size w w'))
      case atStart => exact ⟨0, 0, 0, 0, 0, false, rfl, rfl, by omega, by omega, ⟨by omega⟩, HAi, HM, BK4, BK9, HB⟩
      case round =>
        clear HM BK4 BK9 HB HAi
        obtain ⟨zi, b1, b2, b3, b4, b5, rfl, rfl, hi0, hi1, HZ, HA, HM, BK4, BK9, HB⟩ := hrel
        cases gk with
        | zero =>
          have hzd : decide (zi < (l0.length : Int)) = false := decide_eq_false (by have := HZ.out; omega)
          have f0 : wr.cell? ⟨gb9, 0, none⟩ = some (.int .i64 b1) := (blk_cell BK9.out 0).trans rfl
          have f1 : wr.cell? ⟨gb9, 1, none⟩ = some (.int .i64 b2) := (blk_cell BK9.out 1).trans rfl
          have f2 : wr.cell? ⟨gb9, 2, none⟩ = some (.int .i64 b3) := (blk_cell BK9.out 2).trans rfl
          have f3 : wr.cell? ⟨gb9, 3, none⟩ = some (.int .i64 b4) := (blk_cell BK9.out 3).trans rfl
          have g0 : wr.cell? ⟨gb4, 0, none⟩ = some (.int .i64 0) := (blk_cell BK4.out 0).trans rfl
          have g1 : wr.cell? ⟨gb4, 1, none⟩ = some (.int .i64 0) := (blk_cell BK4.out 1).trans rfl
          have g2 : wr.cell? ⟨gb4, 2, none⟩ = some (.int .i64 0) := (blk_cell BK4.out 2).trans rfl
          have g3 : wr.cell? ⟨gb4, 3, none⟩ = some (.int .i64 0) := (blk_cell BK4.out 3).trans rfl
          have z0 := blk_frozen BK4.out 0
          have z1 := blk_frozen BK4.out 1
          have z2 := blk_frozen BK4.out 2
          have z3 := blk_frozen BK4.out 3
          go_wp2
          have h := HA.out
          simp only [hb_is, Prod.mk.injEq] at h
          obtain ⟨rfl, rfl, rfl, rfl, rfl⟩ := h
          refine bodyPost_ret (results_ct rfl _ _ gb4 27 #[.int .i64 b1, .int .i64 b2, .int .i64 b3, .int .i64 b4] (0, 0) _ rfl (blk_set (blk_set (blk_set (blk_set BK4.out 0 _) 1 _) 2 _) 3 _) Try.underlying27 rfl (by kernel_rfl)) rfl ?_
          exact ⟨rfl, below_set (below_set (below_set (below_set HB.out GE4.out) GE4.out) GE4.out) GE4.out⟩
        | succ q1 =>
          have hzl : zi < (l0.length : Int) := by have := HZ.out; omega
          have hzd : decide (zi < (l0.length : Int)) = true := decide_eq_true hzl
          have p1 := eq_true hi0
          have p2 := eq_true hzl
          go_wp2
          repeat (go_step3; try go_wp2)
          have HAj : Aside0 (hb_is l0 l1 q1 (zi + 1).toNat (hb_js l0 l1 zi.toNat l1.length 0 (b1, b2, b3, b4, b5)) = (r1, r2, r3, r4, r5)) := ⟨by
            have h := HA.out
            rw [show (zi + 1).toNat = zi.toNat + 1 from by omega]
            exact h⟩
          clear HA
          go_loopg [34, 10] l1.length (fun q v34 v10 w' => ∃ (zj : Int) (b1 b2 b3 b4 : Int) (b5 : Bool), v34 = .int .i64 zj ∧ v10 = .bool b5 ∧ 0 ≤ zj ∧ zj ≤ 1000000 ∧ Aside0 (zj + (q : Int) = (l1.length : Int)) ∧ Aside0 (hb_is l0 l1 q1 (zi + 1).toNat (hb_js l0 l1 zi.toNat q zj.toNat (b1, b2, b3, b4, b5)) = (r1, r2, r3, r4, r5)) ∧ Aside0 (MapI w' gm NM (hb_cnt l0)) ∧ Aside0 (w'.heap[gb4]? = some (.cells #[.int .i64 0, .int .i64 0, .int .i64 0, .int .i64 0] 27 (0, 0))) ∧ Aside0 (w'.heap[gb9]? = some (.cells #[.int .i64 b1, .int .i64 b2, .int .i64 b3, .int .i64 b4] 27 (0, 0))) ∧ Aside0 (Below w.heap.size w w'))
          case atStart => exact ⟨0, b1, b2, b3, b4, b5, rfl, rfl, by omega, by omega, ⟨by omega⟩, HAj, HM, BK4, BK9, HB⟩
          case round =>
            clear HM BK4 BK9 HB HAj b1 b2 b3 b4 b5
            obtain ⟨zj, b1, b2, b3, b4, b5, rfl, rfl, hj0, hj1, HZJ, HA, HM, BK4, BK9, HB⟩ := hrel
            cases gk with
            | zero =>
              have hjd : decide (zj < (l1.length : Int)) = false := decide_eq_false (by have := HZJ.out; omega)
              go_wp2
              repeat (go_step3; try go_wp2)
              rw [Exit.noGoto_normal]
              go_wp2
              go_roundg q1
              case measure => omega
              case rel => exact ⟨zi + 1, b1, b2, b3, b4, b5, by go_num, rfl, by omega, by have := HZ.out; omega, ⟨by have := HZ.out; omega⟩, HA, HM, BK4, BK9, HB⟩
            | succ q2 =>
              have hjl : zj < (l1.length : Int) := by have := HZJ.out; omega
              have hjd : decide (zj < (l1.length : Int)) = true := decide_eq_true hjl
              have p3 := eq_true hj0
              have p4 := eq_true hjl
              obtain ⟨ad1, ea1, hx1⟩ := Kd.at_int HR1.out zj hj0 hjl
              cases ea1
              replace hx1 := (HB.out.cell (World.block_lt_of_cell? w _ hx1)).trans hx1
              obtain ⟨ad0, ea0, hx0⟩ := Kd.at_int HR0.out zi hi0 hzl
              cases ea0
              replace hx0 := (HB.out.cell (World.block_lt_of_cell? w _ hx0)).trans hx0
              have HSTEP : Aside0 (hb_is l0 l1 q1 (zi + 1).toNat (hb_js l0 l1 zi.toNat q2 (zj + 1).toNat (hb_step l0 l1 zi.toNat zj.toNat (b1, b2, b3, b4, b5))) = (r1, r2, r3, r4, r5)) := ⟨by
                have h := HA.out
                rw [show (zj + 1).toNat = zj.toNat + 1 from by omega]
                exact h⟩
              clear HA
              go_upto_region 15 with (fail)
              go_cut [65] (fun v65 wc => ∃ (bb : Bool), v65 = .bool bb ∧ Aside0 (hb_iff bb (rd l0 zi ≠ rd l1 zj ∨ (0 < zi.toNat ∧ 0 < zj.toNat ∧ l0.getD (zi.toNat - 1) 0 = l1.getD (zj.toNat - 1) 0))) ∧ Aside0 (MapI wc gm NM (hb_cnt l0)) ∧ Aside0 (wc.heap[gb4]? = some (.cells #[.int .i64 0, .int .i64 0, .int .i64 0, .int .i64 0] 27 (0, 0))) ∧ Aside0 (wc.heap[gb9]? = some (.cells #[.int .i64 b1, .int .i64 b2, .int .i64 b3, .int .i64 b4] 27 (0, 0))) ∧ Aside0 (Below w.heap.size w wc))
              case first =>
                clear HSTEP
                by_cases ce : rd l0 zi = rd l1 zj
                · have ceb0 : ((rd l0 zi) == (rd l1 zj)) = true := beq_iff_eq.mpr ce
                  have ceb1 : ((rd l0 zi) != (rd l1 zj)) = false := bne_eq_false_iff_eq.mpr ce
                  by_cases ci : 0 < zi
                  · have cib : decide (0 < zi) = true := decide_eq_true ci
                    by_cases cj : 0 < zj
                    · have cjb : decide (0 < zj) = true := decide_eq_true cj
                      obtain ⟨i1, hi1e⟩ : ∃ i1, zi - 1 = i1 := ⟨_, rfl⟩
                      obtain ⟨j1, hj1e⟩ : ∃ j1, zj - 1 = j1 := ⟨_, rfl⟩
                      have hiw : wrap64 (zi - 1) = i1 := by rw [← hi1e]; unfold wrap64; omega
                      have hjw : wrap64 (zj - 1) = j1 := by rw [← hj1e]; unfold wrap64; omega
                      have hiw2 := (i64_w _).trans hiw
                      have hjw2 := (i64_w _).trans hjw
                      have i10 : 0 ≤ i1 := by omega
                      have i11 : i1 < (l0.length : Int) := by omega
                      have j10 : 0 ≤ j1 := by omega
                      have j11 : j1 < (l1.length : Int) := by omega
                      have p5 := eq_true i10
                      have p6 := eq_true i11
                      have p7 := eq_true j10
                      have p8 := eq_true j11
                      obtain ⟨ad3, ea3, hx3⟩ := Kd.at_int HR1.out j1 j10 j11
                      cases ea3
                      replace hx3 := (HB.out.cell (World.block_lt_of_cell? w _ hx3)).trans hx3
                      obtain ⟨ad2, ea2, hx2⟩ := Kd.at_int HR0.out i1 i10 i11
                      cases ea2
                      replace hx2 := (HB.out.cell (World.block_lt_of_cell? w _ hx2)).trans hx2
                      obtain ⟨bb, hbb⟩ : ∃ b : Bool, ((rd l0 i1) == (rd l1 j1)) = b := ⟨_, rfl⟩
                      have HBB : Aside0 (hb_iff bb (rd l0 zi ≠ rd l1 zj ∨ (0 < zi.toNat ∧ 0 < zj.toNat ∧ l0.getD (zi.toNat - 1) 0 = l1.getD (zj.toNat - 1) 0))) := ⟨by
                        unfold hb_iff
                        rw [← hbb, beq_iff_eq]
                        unfold rd at ce ⊢
                        rw [show i1.toNat = zi.toNat - 1 from by omega, show j1.toNat = zj.toNat - 1 from by omega]
                        constructor
                        · intro h; exact .inr ⟨by omega, by omega, h⟩
                        · rintro (h | ⟨_, _, h⟩)
                          · exact absurd ce h
                          · exact h⟩
                      clear ce ci cj
                      go_wp2
                      repeat (go_quiet (fail); try go_wp2)
                      go_meet
                      case rel => exact ⟨bb, (by first | rfl | (simp; done) | (simp [*]; done)), HBB, ⟨HM.out.drewN _⟩, ⟨blk_drewN BK4.out _⟩, ⟨blk_drewN BK9.out _⟩, ⟨pw_below_drewN HB.out _⟩⟩
                    · have cjb : decide (0 < zj) = false := decide_eq_false cj
                      have HBB : Aside0 (hb_iff false (rd l0 zi ≠ rd l1 zj ∨ (0 < zi.toNat ∧ 0 < zj.toNat ∧ l0.getD (zi.toNat - 1) 0 = l1.getD (zj.toNat - 1) 0))) := ⟨by
                        constructor
                        · intro h; cases h
                        · rintro (h | ⟨_, h2, h⟩)
                          · exact absurd ce h
                          · exfalso; omega⟩
                      clear ce ci cj
                      go_wp2
                      repeat (go_quiet (fail); try go_wp2)
                      go_meet
                      case rel => exact ⟨false, (by first | rfl | (simp; done) | (simp [*]; done)), HBB, ⟨HM.out.drewN _⟩, ⟨blk_drewN BK4.out _⟩, ⟨blk_drewN BK9.out _⟩, ⟨pw_below_drewN HB.out _⟩⟩
                  · have cib : decide (0 < zi) = false := decide_eq_false ci
                    have HBB : Aside0 (hb_iff false (rd l0 zi ≠ rd l1 zj ∨ (0 < zi.toNat ∧ 0 < zj.toNat ∧ l0.getD (zi.toNat - 1) 0 = l1.getD (zj.toNat - 1) 0))) := ⟨by
                      constructor
                      · intro h; cases h
                      · rintro (h | ⟨h1, h2, h⟩)
                        · exact absurd ce h
                        · exfalso; omega⟩
                    clear ce ci
                    go_wp2
                    repeat (go_quiet (fail); try go_wp2)
                    go_meet
                    case rel => exact ⟨false, (by first | rfl | (simp; done) | (simp [*]; done)), HBB, ⟨HM.out.drewN _⟩, ⟨blk_drewN BK4.out _⟩, ⟨blk_drewN BK9.out _⟩, ⟨pw_below_drewN HB.out _⟩⟩
                · have ceb0 : ((rd l0 zi) == (rd l1 zj)) = false := beq_eq_false_iff_ne.mpr ce
                  have ceb1 : ((rd l0 zi) != (rd l1 zj)) = true := bne_iff_ne.mpr ce
                  have HBB : Aside0 (hb_iff true (rd l0 zi ≠ rd l1 zj ∨ (0 < zi.toNat ∧ 0 < zj.toNat ∧ l0.getD (zi.toNat - 1) 0 = l1.getD (zj.toNat - 1) 0))) := ⟨⟨fun _ => .inl ce, fun _ => rfl⟩⟩
                  clear ce
                  go_wp2
                  repeat (go_quiet (fail); try go_wp2)
                  go_meet
                  case rel => exact ⟨true, (by first | rfl | (simp; done) | (simp [*]; done)), HBB, ⟨HM.out.drewN _⟩, ⟨blk_drewN BK4.out _⟩, ⟨blk_drewN BK9.out _⟩, ⟨pw_below_drewN HB.out _⟩⟩
              case rest =>
                clear HM BK4 BK9 HB
                obtain ⟨bb, rfl, HBB, HM, BK4, BK9, HB⟩ := hcut
                cases bb with
                | true =>
                  go_wp2
                  go_roundg q2
                  case measure => omega
                  case rel =>
                    refine ⟨zj + 1, b1, b2, b3, b4, b5, by go_num, rfl, by omega, by have := HZJ.out; omega, ⟨by have := HZJ.out; omega⟩, ⟨?_⟩, HM, BK4, BK9, HB⟩
                    have h := HSTEP.out
                    unfold hb_step at h
                    rw [if_pos (show (l0.getD zi.toNat 0 ≠ l1.getD zj.toNat 0 ∨ (0 < zi.toNat ∧ 0 < zj.toNat ∧ l0.getD (zi.toNat - 1) 0 = l1.getD (zj.toNat - 1) 0)) from HBB.out.1 rfl)] at h
                    exact h
                | false =>
                  have hne : ¬ (l0.getD zi.toNat 0 ≠ l1.getD zj.toNat 0 ∨ (0 < zi.toNat ∧ 0 < zj.toNat ∧ l0.getD (zi.toNat - 1) 0 = l1.getD (zj.toNat - 1) 0)) := fun h => by have := HBB.out.2 h; cases this
                  have HFIN : Aside0 (hb_is l0 l1 q1 (zi + 1).toNat (hb_js l0 l1 zi.toNat q2 (zj + 1).toNat (hb_fin (b1, b2, b3, b4, b5) zi.toNat zj.toNat (hb_run l0 l1 zi.toNat zj.toNat (l0.length - zi.toNat) 0 (hb_cnt l0 (rd l1 zj))))) = (r1, r2, r3, r4, r5)) := ⟨by
                    have h := HSTEP.out
                    unfold hb_step at h
                    rw [if_neg hne] at h
                    exact h⟩
                  clear HSTEP hne HBB
                  have hw1 : (Lit.int .i64 (rd l1 zj)).wf = true := HW1.out _ (rd_mem hj0 hjl)
                  have hlk := HM.out.look (rd l1 zj) hw1
                  go_wp2_with (first | ((with_reducible refine gate_dst (N := 14) rfl ?_); refine box_event ?hg (N := 14) ?hd (cs := #[.int .i64 0, .int .i64 0, .int .i64 0, .int .i64 0]) (t := 27) ?hr ?_; (case hd => rfl); (case hg => rfl); (case hr => first | (go_simp; done) | (go_simp; rfl)); intro gb14 hg w14 hbox hb; have n1_ := Aside0.mk (below_step HB.out hb); have n2_ := Aside0.mk (hg ▸ HB.out.size : w.heap.size ≤ gb14); have n3_ := Aside0.mk (MapI.same HM.out (hb.block gm HM.out.lt)); have n4_ := Aside0.mk (blk_below BK4.out hb); have n5_ := Aside0.mk (show gb4 ≠ gb14 from by have h := blk_lt BK4.out; omega); have n6_ := Aside0.mk (blk_below BK9.out hb); have n7_ := Aside0.mk (show gb9 ≠ gb14 from by have h := blk_lt BK9.out; omega); clear HB HM BK4 BK9; have HB := n1_; have GE14 := n2_; have HM := n3_; have BK4 := n4_; have NE414 := n5_; have BK9 := n6_; have NE914 := n7_; have BK14 := Aside0.mk hbox; clear hbox hb hg n1_ n2_ n3_ n4_ n5_ n6_ n7_; have f0 := blk_frozen BK14.out 0; have f1 := blk_frozen BK14.out 1; have f2 := blk_frozen BK14.out 2; have f3 := blk_frozen BK14.out 3; have g0 := (blk_cell BK14.out 0).trans rfl; have g1 := (blk_cell BK14.out 1).trans rfl; have g2 := (blk_cell BK14.out 2).trans rfl; have g3 := (blk_cell BK14.out 3).trans rfl))
                  have HNM14 := Aside0.mk (HM.out.ne BK14.out)
                  clear hlk hw1 f0 f1 f2 f3 g0 g1 g2 g3
                  have HAr : Aside0 (hb_is l0 l1 q1 (zi + 1).toNat (hb_js l0 l1 zi.toNat q2 (zj + 1).toNat (hb_fin (b1, b2, b3, b4, b5) zi.toNat zj.toNat (hb_run l0 l1 zi.toNat zj.toNat (l0.length - zi.toNat) (0 : Int).toNat (hb_cnt l0 (rd l1 zj))))) = (r1, r2, r3, r4, r5)) := HFIN
                  clear HFIN
                  go_loopg [] (l0.length - zi.toNat) (fun q w' => ∃ (n rare : Int), 0 ≤ n ∧ n ≤ 1000000 ∧ Aside0 (zi + n + (q : Int) = (l0.length : Int)) ∧ Aside0 (hb_is l0 l1 q1 (zi + 1).toNat (hb_js l0 l1 zi.toNat q2 (zj + 1).toNat (hb_fin (b1, b2, b3, b4, b5) zi.toNat zj.toNat (hb_run l0 l1 zi.toNat zj.toNat q n.toNat rare))) = (r1, r2, r3, r4, r5)) ∧ Aside0 (MapI w' gm NM (hb_cnt l0)) ∧ Aside0 (w'.heap[gb4]? = some (.cells #[.int .i64 0, .int .i64 0, .int .i64 0, .int .i64 0] 27 (0, 0))) ∧ Aside0 (w'.heap[gb9]? = some (.cells #[.int .i64 b1, .int .i64 b2, .int .i64 b3, .int .i64 b4] 27 (0, 0))) ∧ Aside0 (w'.heap[gb14]? = some (.cells #[.int .i64 zi, .int .i64 zj, .int .i64 n, .int .i64 rare] 27 (0, 0))) ∧ Aside0 (Below w.heap.size w w'))
                  case atStart => exact ⟨0, hb_cnt l0 (rd l1 zj), by omega, by omega, ⟨by omega⟩, HAr, ⟨(((HM.out.set HNM14.out _).set HNM14.out _).set HNM14.out _).set HNM14.out _⟩, ⟨blk_far (blk_far (blk_far (blk_far BK4.out NE414.out _) NE414.out _) NE414.out _) NE414.out _⟩, ⟨blk_far (blk_far (blk_far (blk_far BK9.out NE914.out _) NE914.out _) NE914.out _) NE914.out _⟩, ⟨blk_set (blk_set (blk_set (blk_set BK14.out 0 _) 1 _) 2 _) 3 _⟩, ⟨below_set (below_set (below_set (below_set HB.out GE14.out) GE14.out) GE14.out) GE14.out⟩⟩
                  case round =>
                    clear HAr HM BK4 BK9 BK14 HB hx0 hx1
                    obtain ⟨n, rare, hn0', hn1', HQ, HA, HM, BK4, BK9, BK14, HB⟩ := hrel
                    have e0 : wr.cell? ⟨gb14, 0, none⟩ = some (.int .i64 zi) := (blk_cell BK14.out 0).trans rfl
                    have e1 : wr.cell? ⟨gb14, 1, none⟩ = some (.int .i64 zj) := (blk_cell BK14.out 1).trans rfl
                    have e2 : wr.cell? ⟨gb14, 2, none⟩ = some (.int .i64 n) := (blk_cell BK14.out 2).trans rfl
                    have e3 : wr.cell? ⟨gb14, 3, none⟩ = some (.int .i64 rare) := (blk_cell BK14.out 3).trans rfl
                    obtain ⟨i2, hi2e⟩ : ∃ i2, zi + n = i2 := ⟨_, rfl⟩
                    obtain ⟨j2, hj2e⟩ : ∃ j2, zj + n = j2 := ⟨_, rfl⟩
                    have hiw : wrap64 (zi + n) = i2 := by rw [← hi2e]; unfold wrap64; omega
                    have hjw : wrap64 (zj + n) = j2 := by rw [← hj2e]; unfold wrap64; omega
                    have hiw2 := (i64_w _).trans hiw
                    have hjw2 := (i64_w _).trans hjw
                    go_upto_region 17 with (fail)
                    go_cut [104] (fun v104 wc => ∃ (bb : Bool), v104 = .bool bb ∧ Aside0 (hb_iff bb (zi.toNat + n.toNat < l0.length ∧ zj.toNat + n.toNat < l1.length ∧ l0.getD (zi.toNat + n.toNat) 0 = l1.getD (zj.toNat + n.toNat) 0)) ∧ Aside0 (MapI wc gm NM (hb_cnt l0)) ∧ Aside0 (wc.heap[gb4]? = some (.cells #[.int .i64 0, .int .i64 0, .int .i64 0, .int .i64 0] 27 (0, 0))) ∧ Aside0 (wc.heap[gb9]? = some (.cells #[.int .i64 b1, .int .i64 b2, .int .i64 b3, .int .i64 b4] 27 (0, 0))) ∧ Aside0 (wc.heap[gb14]? = some (.cells #[.int .i64 zi, .int .i64 zj, .int .i64 n, .int .i64 rare] 27 (0, 0))) ∧ Aside0 (Below w.heap.size w wc))
                    case first =>
                      clear HA
                      have i20 : 0 ≤ i2 := by omega
                      have j20 : 0 ≤ j2 := by omega
                      have p5 := eq_true i20
                      have p6 := eq_true j20
                      by_cases ci : i2 < (l0.length : Int)
                      · have cib : decide (i2 < (l0.length : Int)) = true := decide_eq_true ci
                        have p7 := eq_true ci
                        by_cases cj : j2 < (l1.length : Int)
                        · have cjb : decide (j2 < (l1.length : Int)) = true := decide_eq_true cj
                          have p8 := eq_true cj
                          obtain ⟨ad3, ea3, hx3⟩ := Kd.at_int HR1.out j2 j20 cj
                          cases ea3
                          replace hx3 := (HB.out.cell (World.block_lt_of_cell? w _ hx3)).trans hx3
                          obtain ⟨ad2, ea2, hx2⟩ := Kd.at_int HR0.out i2 i20 ci
                          cases ea2
                          replace hx2 := (HB.out.cell (World.block_lt_of_cell? w _ hx2)).trans hx2
                          obtain ⟨bb, hbb⟩ : ∃ b : Bool, ((rd l0 i2) == (rd l1 j2)) = b := ⟨_, rfl⟩
                          have HBB : Aside0 (hb_iff bb (zi.toNat + n.toNat < l0.length ∧ zj.toNat + n.toNat < l1.length ∧ l0.getD (zi.toNat + n.toNat) 0 = l1.getD (zj.toNat + n.toNat) 0)) := ⟨by
                            unfold hb_iff
                            rw [← hbb, beq_iff_eq]
                            unfold rd
                            rw [show i2.toNat = zi.toNat + n.toNat from by omega, show j2.toNat = zj.toNat + n.toNat from by omega]
                            constructor
                            · intro h; exact ⟨by omega, by omega, h⟩
                            · rintro ⟨_, _, h⟩; exact h⟩
                          clear ci cj
                          go_wp2
                          repeat (go_quiet (fail); try go_wp2)
                          go_meet
                          case rel => exact ⟨bb, (by first | rfl | (simp; done) | (simp [*]; done)), HBB, ⟨HM.out.drewN _⟩, ⟨blk_drewN BK4.out _⟩, ⟨blk_drewN BK9.out _⟩, ⟨blk_drewN BK14.out _⟩, ⟨pw_below_drewN HB.out _⟩⟩
                        · have cjb : decide (j2 < (l1.length : Int)) = false := decide_eq_false cj
                          have HBB : Aside0 (hb_iff false (zi.toNat + n.toNat < l0.length ∧ zj.toNat + n.toNat < l1.length ∧ l0.getD (zi.toNat + n.toNat) 0 = l1.getD (zj.toNat + n.toNat) 0)) := ⟨by
                            unfold hb_iff
                            constructor
                            · intro h; cases h
                            · rintro ⟨_, h, _⟩; exfalso; omega⟩
                          clear ci cj
                          go_wp2
                          repeat (go_quiet (fail); try go_wp2)
                          go_meet
                          case rel => exact ⟨false, (by first | rfl | (simp; done) | (simp [*]; done)), HBB, ⟨HM.out.drewN _⟩, ⟨blk_drewN BK4.out _⟩, ⟨blk_drewN BK9.out _⟩, ⟨blk_drewN BK14.out _⟩, ⟨pw_below_drewN HB.out _⟩⟩
                      · have cib : decide (i2 < (l0.length : Int)) = false := decide_eq_false ci
                        have HBB : Aside0 (hb_iff false (zi.toNat + n.toNat < l0.length ∧ zj.toNat + n.toNat < l1.length ∧ l0.getD (zi.toNat + n.toNat) 0 = l1.getD (zj.toNat + n.toNat) 0)) := ⟨by
                          unfold hb_iff
                          constructor
                          · intro h; cases h
                          · rintro ⟨h, _⟩; exfalso; omega⟩
                        clear ci
                        go_wp2
                        repeat (go_quiet (fail); try go_wp2)
                        go_meet
                        case rel => exact ⟨false, (by first | rfl | (simp; done) | (simp [*]; done)), HBB, ⟨HM.out.drewN _⟩, ⟨blk_drewN BK4.out _⟩, ⟨blk_drewN BK9.out _⟩, ⟨blk_drewN BK14.out _⟩, ⟨pw_below_drewN HB.out _⟩⟩
                    case rest =>
                      clear HM BK4 BK9 BK14 HB e0 e1 e2 e3
                      obtain ⟨bb, rfl, HBB, HM, BK4, BK9, BK14, HB⟩ := hcut
                      have e0 : wc.cell? ⟨gb14, 0, none⟩ = some (.int .i64 zi) := (blk_cell BK14.out 0).trans rfl
                      have e1 : wc.cell? ⟨gb14, 1, none⟩ = some (.int .i64 zj) := (blk_cell BK14.out 1).trans rfl
                      have e2 : wc.cell? ⟨gb14, 2, none⟩ = some (.int .i64 n) := (blk_cell BK14.out 2).trans rfl
                      have e3 : wc.cell? ⟨gb14, 3, none⟩ = some (.int .i64 rare) := (blk_cell BK14.out 3).trans rfl
                      cases bb with
                      | true =>
                        have hc17 := HBB.out.1 rfl
                        have i20 : 0 ≤ i2 := by omega
                        have i21 : i2 < (l0.length : Int) := by omega
                        have p5 := eq_true i20
                        have p7 := eq_true i21
                        obtain ⟨ad2, ea2, hx2⟩ := Kd.at_int HR0.out i2 i20 i21
                        cases ea2
                        replace hx2 := (HB.out.cell (World.block_lt_of_cell? w _ hx2)).trans hx2
                        have hlk := HM.out.drew.look (rd l0 i2) (HW0.out _ (rd_mem i20 i21))
                        have z0 := blk_frozen BK14.out 0
                        have z1 := blk_frozen BK14.out 1
                        have z2 := blk_frozen BK14.out 2
                        have z3 := blk_frozen BK14.out 3
                        obtain ⟨mr, hmr⟩ : ∃ m, mn rare (hb_cnt l0 (rd l0 i2)) = m := ⟨_, rfl⟩
                        have hmr' : (if (hb_cnt l0 (rd l0 i2)) < rare then (hb_cnt l0 (rd l0 i2)) else rare) = mr := hmr
                        have HC17 := Aside0.mk hc17
                        clear hc17
                        go_wp2
                        go_region
                        go_wp2
                        go_roundg (l0.length - zi.toNat - n.toNat - 1)
                        case measure => have := HC17.out; have := HQ.out; omega
                        case rel =>
                          refine ⟨n + 1, mr, by omega, by have := HC17.out; omega, ⟨by have := HC17.out; have := HQ.out; omega⟩, ⟨?_⟩, ⟨((HM.out.drew).set HNM14.out _).set HNM14.out _⟩, ⟨blk_far (blk_far (blk_drew BK4.out) NE414.out _) NE414.out _⟩, ⟨blk_far (blk_far (blk_drew BK9.out) NE914.out _) NE914.out _⟩, ⟨blk_set (blk_set (blk_drew BK14.out) 3 _) 2 _⟩, ⟨below_set (below_set (below_drew1 HB.out) GE14.out) GE14.out⟩⟩
                          have h := HA.out
                          have hq : ∃ q', gk = q' + 1 ∧ l0.length - zi.toNat - n.toNat - 1 = q' := ⟨gk - 1, by have := HC17.out; have := HQ.out; omega, by have := HC17.out; have := HQ.out; omega⟩
                          obtain ⟨q', hq1, hq2⟩ := hq
                          rw [hq2]
                          rw [hq1, hb_run, if_pos HC17.out] at h
                          rw [show (n + 1).toNat = n.toNat + 1 from by omega, ← hmr]
                          have e : rd l0 i2 = l0.getD (zi.toNat + n.toNat) 0 := by unfold rd; rw [show i2.toNat = zi.toNat + n.toNat from by omega]
                          rw [e]
                          exact h
                      | false =>
                        have hc17 : ¬ (zi.toNat + n.toNat < l0.length ∧ zj.toNat + n.toNat < l1.length ∧ l0.getD (zi.toNat + n.toNat) 0 = l1.getD (zj.toNat + n.toNat) 0) := fun h => by have := HBB.out.2 h; cases this
                        have HD : Aside0 (hb_is l0 l1 q1 (zi + 1).toNat (hb_js l0 l1 zi.toNat q2 (zj + 1).toNat (hb_fin (b1, b2, b3, b4, b5) zi.toNat zj.toNat (n.toNat, rare))) = (r1, r2, r3, r4, r5)) := ⟨by
                          have h := HA.out
                          cases gk with
                          | zero => exact h
                          | succ q' => rw [hb_run, if_neg hc17] at h; exact h⟩
                        clear HA hc17 HBB
                        have k0 : wc.cell? ⟨gb9, 0, none⟩ = some (.int .i64 b1) := (blk_cell BK9.out 0).trans rfl
                        have k1 : wc.cell? ⟨gb9, 1, none⟩ = some (.int .i64 b2) := (blk_cell BK9.out 1).trans rfl
                        have k2 : wc.cell? ⟨gb9, 2, none⟩ = some (.int .i64 b3) := (blk_cell BK9.out 2).trans rfl
                        have k3 : wc.cell? ⟨gb9, 3, none⟩ = some (.int .i64 b4) := (blk_cell BK9.out 3).trans rfl
                        cases b5 with
                        | false =>
                          have z0 := blk_frozen BK9.out 0
                          have z1 := blk_frozen BK9.out 1
                          have z2 := blk_frozen BK9.out 2
                          have z3 := blk_frozen BK9.out 3
                          go_wp2
                          go_roundg q2
                          case measure => omega
                          case rel =>
                            refine ⟨zj + 1, zi, zj, n, rare, true, by go_num, rfl, by omega, by have := HZJ.out; omega, ⟨by have := HZJ.out; omega⟩, ⟨?_⟩, ⟨(((HM.out.set HNM9.out _).set HNM9.out _).set HNM9.out _).set HNM9.out _⟩, ⟨blk_far (blk_far (blk_far (blk_far BK4.out NE49.out _) NE49.out _) NE49.out _) NE49.out _⟩, ⟨blk_set (blk_set (blk_set (blk_set BK9.out 0 _) 1 _) 2 _) 3 _⟩, ⟨below_set (below_set (below_set (below_set HB.out GE9.out) GE9.out) GE9.out) GE9.out⟩⟩
                            have h := HD.out
                            unfold hb_fin at h
                            rw [if_pos (.inl rfl)] at h
                            rw [show ((zi.toNat : Nat) : Int) = zi from by omega, show ((zj.toNat : Nat) : Int) = zj from by omega, show ((n.toNat : Nat) : Int) = n from by omega] at h
                            exact h
                        | true =>
                          have hbt : ∃ cv : Bool, histogram_Run_better.f zi zj n rare b1 b2 b3 b4 = some cv ∧ (cv = true ↔ (if rare = b4 then n > b3 else rare < b4)) := by
                            unfold histogram_Run_better.f
                            by_cases hr : rare = b4
                            · rw [if_pos hr, if_pos hr]; exact ⟨_, rfl, by simp⟩
                            · rw [if_neg hr, if_neg hr]; exact ⟨_, rfl, by simp⟩
                          obtain ⟨cv, hcv, hcv2⟩ := hbt
                          have HCV := Aside0.mk hcv
                          have HCV2 := Aside0.mk hcv2
                          clear hcv hcv2
                          cases cv with
                          | false =>
                            go_wp2_with (first | (go_at_call 35; (with_reducible refine (histogram_Run_better.calls zi zj n rare b1 b2 b3 b4 false _ HCV.out).mono ?_); rintro e w15 ⟨rfl, hb15⟩; have HB15 := Aside0.mk hb15; clear hb15))
                            have n3_ := MapI.same HM.out (HB15.out.block gm HM.out.lt)
                            go_roundg q2
                            case measure => omega
                            case rel =>
                              refine ⟨zj + 1, b1, b2, b3, b4, true, by go_num, rfl, by omega, by have := HZJ.out; omega, ⟨by have := HZJ.out; omega⟩, ⟨?_⟩, ⟨n3_⟩, ⟨blk_below BK4.out HB15.out⟩, ⟨blk_below BK9.out HB15.out⟩, ⟨below_step HB.out HB15.out⟩⟩
                              have h := HD.out
                              have hc := HCV2.out
                              unfold hb_fin at h
                              rw [if_neg (by
                                rintro (h | h)
                                · cases h
                                · dsimp only at h
                                  rw [show ((n.toNat : Nat) : Int) = n from by omega] at h
                                  have := hc.2 h; cases this)] at h
                              exact h
                          | true =>
                            go_wp2_with (first | (go_at_call 35; (with_reducible refine (histogram_Run_better.calls zi zj n rare b1 b2 b3 b4 true _ HCV.out).mono ?_); rintro e w15 ⟨rfl, hb15⟩; have HB15 := Aside0.mk hb15; clear hb15; have n3_ := Aside0.mk (MapI.same HM.out (HB15.out.block gm HM.out.lt)); have n4_ := Aside0.mk (blk_below BK4.out HB15.out); have n5_ := Aside0.mk (blk_below BK9.out HB15.out); have n6_ := Aside0.mk (blk_below BK14.out HB15.out); have n7_ := Aside0.mk (below_step HB.out HB15.out); clear HM BK4 BK9 BK14 HB e0 e1 e2 e3 k0 k1 k2 k3; have HM := n3_; have BK4 := n4_; have BK9 := n5_; have BK14 := n6_; have HB := n7_; clear n3_ n4_ n5_ n6_ n7_; have e0 := (blk_cell BK14.out 0).trans rfl; have e1 := (blk_cell BK14.out 1).trans rfl; have e2 := (blk_cell BK14.out 2).trans rfl; have e3 := (blk_cell BK14.out 3).trans rfl; have k0 := (blk_cell BK9.out 0).trans rfl; have k1 := (blk_cell BK9.out 1).trans rfl; have k2 := (blk_cell BK9.out 2).trans rfl; have k3 := (blk_cell BK9.out 3).trans rfl; have z0 := blk_frozen BK9.out 0; have z1 := blk_frozen BK9.out 1; have z2 := blk_frozen BK9.out 2; have z3 := blk_frozen BK9.out 3))
                            go_roundg q2
                            case measure => omega
                            case rel =>
                              refine ⟨zj + 1, zi, zj, n, rare, true, by go_num, rfl, by omega, by have := HZJ.out; omega, ⟨by have := HZJ.out; omega⟩, ⟨?_⟩, ⟨(((HM.out.set HNM9.out _).set HNM9.out _).set HNM9.out _).set HNM9.out _⟩, ⟨blk_far (blk_far (blk_far (blk_far BK4.out NE49.out _) NE49.out _) NE49.out _) NE49.out _⟩, ⟨blk_set (blk_set (blk_set (blk_set BK9.out 0 _) 1 _) 2 _) 3 _⟩, ⟨below_set (below_set (below_set (below_set HB.out GE9.out) GE9.out) GE9.out) GE9.out⟩⟩
                              have h := HD.out
                              have hc := HCV2.out
                              unfold hb_fin at h
                              rw [if_pos (by
                                right
                                dsimp only
                                rw [show ((n.toNat : Nat) : Int) = n from by omega]
                                exact hc.1 (by first | rfl | trivial))] at h
                              rw [show ((zi.toNat : Nat) : Int) = zi from by omega, show ((zj.toNat : Nat) : Int) = zj from by omega, show ((n.toNat : Nat) : Int) = n from by omega] at h
                              exact h
    | succ q1 =>
      have hzl : z < (l0.length : Int) := by have := HZ.out; omega
      have hzd : decide (z < (l0.length : Int)) = true := decide_eq_true hzl
      obtain ⟨ad0, ea0, hx0⟩ := Kd.at_int HR0.out z hz0 hzl
      cases ea0
      replace hx0 := (HB.out.cell (World.block_lt_of_cell? w _ hx0)).trans hx0
      have hwx : (Lit.int .i64 (rd l0 z)).wf = true := HW0.out _ (rd_mem hz0 hzl)
      have hlk := HM.out.look (rd l0 z) hwx
      have HLK := Aside0.mk (hb_cnt_bound (l0.take z.toNat) (rd l0 z))
      have HLT := Aside0.mk (List.length_take_le z.toNat l0)
      have p1 := eq_true hz0
      have p2 := eq_true hzl
      go_wp2_with (first | (at_mapUpdate; go_loud (refine MapI.put_event rfl rfl _ _ _ rfl rfl HM.out (by unfold maxLen; omega) (rd l0 z) (wrap64 (hb_cnt (l0.take z.toNat) (rd l0 z) + 1)) rfl rfl hwx (wrap64_wf _) ?_); intro w7 hm7 hg7; have HM7 := Aside0.mk hm7; have HG7 := Aside0.mk hg7; clear hm7 hg7))
      go_roundg q1
      case measure => omega
      case rel =>
        refine ⟨z + 1, by go_num, by omega, by omega, ⟨by have := HZ.out; omega⟩, ⟨?_⟩, ⟨blk_grown BK4.out HG7.out (by intro e; injection e with e; exact NE4.out e)⟩, ⟨pw_below_grown HB.out (some gm) HB.out.size HG7.out (by intro k e; injection e with e; rw [← e]; exact GEM.out)⟩⟩
        have h1 := HLK.out; have h2 := HLT.out
        have h := HM7.out
        rw [show (z + 1).toNat = z.toNat + 1 from by omega]
        refine MapI.congr h (fun q => ?_)
        rw [hb_cnt_take l0 z.toNat (by omega) q]
        by_cases e : q = rd l0 z
        · subst e
          rw [if_pos rfl]
          rw [show l0.getD z.toNat 0 = rd l0 z from rfl, if_pos rfl]
          unfold wrap64; omega
        · rw [if_neg e, if_neg (fun e2 => e e2.symm)]
          omega
end Go.Proofs.Ytdcldoembdifpaa.X
