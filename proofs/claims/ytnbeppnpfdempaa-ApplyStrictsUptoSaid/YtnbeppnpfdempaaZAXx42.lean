import Derived.Test.YtnbeppnpfdempaaZAXx0
import Derived.Test.YtnbeppnpfdempaaZAXx41
import Derived.RangeFuncNested
import Derived.RangeFuncBound
import Derived.RangeFuncCalls
import Derived.RangeFuncLeaves
import Derived.Shelf.Abstract
import Derived.Shelf.RegionOpen
import Derived.WalkKit
import Derived.OwnWalkIn
import Derived.TacticsInMore
import Derived.LoopNIn
import Derived.LoopIn
import Derived.Shelf.AbstractIn
import Derived.ChangeSlices
import Derived.Lib.Bytealg
import Derived.Sort.BigQuietIn
namespace Go.Proofs.Ytnbeppnpfdempaa.X
open Go.RowKit Go.Proofs.YtnbeppnpfdempaaW.PrintWords Go.Proofs.YtnbeppnpfdempaaW.PrintLast Go.Proofs.YtnbeppnpfdempaaW.PrintMore
attribute [local go_sem] max2_int min2_int max_two min_two max_three min_three max_four min_four   -- for this text's walks alone
open Go.Proofs.YtnbeppnpfdempaaW.HandWords
set_option linter.unusedVariables false
set_option linter.unusedSimpArgs false
section
open Go.Shelf
attribute [local go_sem] Oper.semAt_some
def noDef (o : Oper) : Bool := match o.op with | .defer _ => false | _ => true
theorem noDef_at {F : Fence} {o : Oper} (h : noDef o = true) (ρ : Operand → Value) : o.semAt F.round ρ = execOp ρ o :=
  Oper.semAt_eq _ _ _ (fun c e => by unfold noDef at h; rw [e] at h; cases h)
theorem quietR_op {F : Fence} {n : Nat} {P : Program} {C : World → Prop} {o : Oper} {a : Act} {K : Act → Prop} {K' : Act → World → Prop} {Q' : Exit → Act → World → Prop} {w : World} (hro : noDef o = true) (hw : C w) (h : ∀ a w', C w' → K a → K' a w')
    (ha : o.askedIn F P a C) (hh : o.quietIn F n P a C K) : o.wpIn F n P a w K' Q' := by
  obtain ⟨v, h1, h2⟩ := hh
  have h3 := h1 w hw
  unfold Oper.quietAtIn at h3
  unfold Oper.wpIn
  refine ⟨ha w hw, ?_⟩
  rw [noDef_at hro]
  generalize (execOp a.eval o).run P w = r at *
  cases r with
  | ok x w' =>
    cases x <;> simp only [Oper.quietUponIn] at h3 <;> simp only [Oper.uponIn]
    case value u =>
      obtain ⟨e1, e2⟩ := h3
      rw [e1, e2]
      exact h _ _ hw h2
    case skip =>
      obtain ⟨e1, e2⟩ := h3
      rw [e1, ← e2]
      exact h _ _ hw h2
    case enter f args =>
      obtain ⟨e1, hd, hc⟩ := h3
      rw [e1]
      exact ⟨hd, hc.mono fun e w'' ⟨he, hw''⟩ => by subst he; exact h _ _ hw'' h2⟩
  | halt x w' => simp only [Oper.quietUponIn] at h3
theorem quietR_q {F : Fence} {n : Nat} {P : Program} {C : World → Prop} {ops : Array Oper} {i : Nat} {a : Act} {K : Act → Prop} {K' : Act → World → Prop} {Q' : Exit → Act → World → Prop} {w : World} (hro : ops.toList.all noDef = true) (hC : C w) (h : ∀ a w', C w' → K a → K' a w')
    (hh : qOpIn F n P ops C i K a) : wpOpIn F n P ops Q' i K' a w := by
  unfold qOpIn at hh
  unfold wpOpIn
  split
  · rename_i ho; simp only [ho] at hh; exact h _ _ hC hh
  · rename_i o ho
    simp only [ho] at hh
    obtain ⟨ha, hh⟩ := hh
    have hno : noDef o = true := List.all_eq_true.1 hro o (by
      obtain ⟨hi, e⟩ := Array.getElem?_eq_some_iff.1 ho
      rw [← e]
      exact Array.mem_toList_iff.2 (Array.getElem_mem hi))
    split
    · rename_i hw; simp only [hw, if_true] at hh; exact quietR_op hno hC h ha hh
    · rename_i hw; simp only [hw] at hh; exact ⟨ha w hC, h _ _ hC hh⟩
theorem quietR_any {F : Fence} {n : Nat} {P : Program} {C : World → Prop} {ops : Array Oper} {md : Region.Mode} {Q : Act → Prop} {Q' : Exit → Act → World → Prop} (hro : ops.toList.all noDef = true) (hQ : ∀ a w, C w → Q a → Q' .normal a w) : ∀ (fuel : Nat) (listed : Array Bool) (a : Act) (w : World), C w →
    wpAnyQIn F n P md ops C Q fuel listed a → wpAnyIn F n P md ops Q' fuel listed a w
  | 0, _, _, _, hw, h => ⟨h.1, hQ _ _ hw h.2⟩
  | fuel + 1, _, _, _, hw, h => ⟨fun h0 => hQ _ _ hw (h.1 h0), fun i hi => quietR_q hro hw (fun a' w' hw' => quietR_any hro hQ fuel _ a' w' hw') (h.2 i hi)⟩
theorem quietR_lit {F : Fence} {n : Nat} {P : Program} {id : Nat} {Q : Exit → Act → World → Prop} {a : Act} {w : World} {l : List Oper} (hro : l.all noDef = true) (hm : P.follows .mixedOrders = true) (hB : Region.lexB .any l.toArray = true)
    (h : wpQuietIn F n P l.toArray (fun w' => ∃ n, w' = w.drewN n) (fun a' => ∀ w', (∃ n, w' = w.drewN n) → Q .normal a' w') l a) : (Code.region id l.toArray true).wpIn F n P Q a w := by
  simp only [Region.lexB, Bool.and_eq_true] at hB
  refine wpIn_region_any hm (quietR_any (C := fun w' => ∃ n, w' = w.drewN n) (Q := fun a' => ∀ w', (∃ n, w' = w.drewN n) → Q .normal a' w') hro (fun _ w' hw' h => h w' hw') _ _ _ _ ⟨1, rfl⟩ ?_)
  have := wpAnyQIn_lex (F := F) (n := n) (C := fun w' => ∃ n, w' = w.drewN n) (md := .any) hB.1 l 0 (Array.replicate l.length false) a (by simp) (by simpa using hB.2) (by simpa using h)
  simpa using this
def bwd (xs : List S76) (k : Nat) : List (Int × S76) := (List.range k).map fun j : Nat => ((xs.length : Int) - 1 - (j : Int), rd_T76 xs ((xs.length : Int) - 1 - (j : Int)))
theorem bwd_succ (xs : List S76) (k : Nat) : bwd xs (k + 1) = bwd xs k ++ [((xs.length : Int) - 1 - k, rd_T76 xs ((xs.length : Int) - 1 - k))] := by simp [bwd, List.range_succ]
theorem bwd_length (xs : List S76) (k : Nat) : (bwd xs k).length = k := by simp [bwd]
def KB (Bs n₀ : Nat) (W W' : World) : Prop := Below n₀ W W' ∧ W'.heap[Bs]? = W.heap[Bs]?
theorem KB.trans {Bs n₀ : Nat} {A B C : World} (h : KB Bs n₀ A B) (k : KB Bs n₀ B C) : KB Bs n₀ A C := ⟨h.1.trans k.1, k.2.trans h.2⟩
theorem KB.refl (Bs n₀ : Nat) (A : World) : KB Bs n₀ A A := ⟨Below.refl _ _, rfl⟩
theorem KB.box {Bs n₀ : Nat} {A B : World} {v : Value} (h : KB Bs n₀ A B) (k : A.cell? ⟨Bs, 0, none⟩ = some v) : B.cell? ⟨Bs, 0, none⟩ = some v := by
  have h2 := h.2
  unfold World.cell? at k ⊢
  rw [show B.heap[Bs]? = _ from h2]
  exact k
set_option maxRecDepth 100000 in
set_option maxHeartbeats 2000000 in
theorem slices_Backward_1.walk (F : Fence) (n : Nat) (h7 : F.fn 76) (hro : F.round = none) (hn : 1 ≤ n) (l Bs n₀ : Nat) (A : Option Addr) (c : Nat) (xs : List S76) (hb : ∀ ad, A = some ad → xs ≠ [] → ad.block < n₀) (J Jx : List (Int × S76) → World → Prop)
    (hY : ∀ pre x W, J pre W → pre.length < xs.length → YieldAt F (n - 1) Try.prog l #[.int .i64 x.1, .agg #[.int .u8 x.2.f0, .string x.2.f1]] W fun e W' =>
      (e = .returned (.bool true) ∧ J (pre ++ [x]) W' ∧ KB Bs n₀ W W') ∨ (e = .returned (.bool false) ∧ Jx (pre ++ [x]) W'))
    (W : World) (hBs : W.cell? ⟨Bs, 0, none⟩ = some (.slice A xs.length c)) (hc : Kd.C k76 W A xs.length xs) (h0 : J [] W) :
    CallsIn F n Try.prog 76 #[.func (.yield l) #[] #[], .pointer (some ⟨Bs, 0, none⟩)] W fun e W' => (∃ v, e = .returned v) ∧
      ((∃ ys, ys = bwd xs xs.length ∧ J ys W') ∨ (∃ pre, (∃ k, k ≤ xs.length ∧ pre = bwd xs k) ∧ Jx pre W')) := by
  have hln : xs.length ≤ 9223372036854775807 := hc.2.1
  have hw0 : wrap64 ((xs.length : Int) - 1) = (xs.length : Int) - 1 := by unfold wrap64; omega
  refine callsIn_of_wp Try.func76 rfl h7 ?_ hro
  simp only [Try.ntmps76, List.size_toArray, List.length_cons, List.length_nil, Nat.reduceAdd, Nat.reduceSub, Array.replicate_succ, Array.replicate_zero, List.push_toArray, List.append_toArray, List.nil_append, List.cons_append]
  gi_wp2
  gi_loopw [3] (fun i wr => ∃ (k : Nat) (z : Int), k ≤ xs.length ∧ i = .int .i64 z ∧ z + k + 1 = xs.length ∧ J (bwd xs k) wr ∧ KB Bs n₀ W wr)
    (fun i _ => (intOf i + 1).toNat)
  case atStart => exact ⟨0, (xs.length : Int) - 1, Nat.zero_le _, rfl, by omega, h0, KB.refl _ _ _⟩
  case round =>
    obtain ⟨k, z, hk, rfl, hz, hJs, hnx⟩ := hrel
    have hBs' := hnx.box hBs
    by_cases hlt : 0 ≤ z
    · obtain ⟨ad, ea, x0, x1⟩ := at_T76 hc z hlt (by omega)
      have hbb : ∀ m, (ad.add m).block < n₀ := fun m => by have := hb ad ea (fun e => by rw [e] at hz; simp at hz; omega); unfold Addr.add; split <;> exact this
      subst ea
      replace x0 := (hnx.1.cell (p := ad.add (z.toNat * 2)) (hbb _)).trans x0
      replace x1 := (hnx.1.cell (p := ⟨(ad.add (z.toNat * 2)).block, (ad.add (z.toNat * 2)).off + 1, none⟩) (hbb _)).trans x1
      have hzk : (xs.length : Int) - 1 - (k : Int) = z := by omega
      obtain ⟨fn, tmps, assign, body, hy, hR⟩ := hY _ (z, rd_T76 xs z) wr hJs (by rw [bwd_length]; omega)
      dsimp only at hy
      have p1 : (z ≥ 0) = True := eq_true hlt
      have p2 : (z < (xs.length : Int)) = True := eq_true (by omega)
      have p3 : (0 ≤ z) = True := eq_true hlt
      have d1 : decide (z ≥ 0) = true := decide_eq_true hlt
      have hw1 : wrap64 (z - 1) = z - 1 := by unfold wrap64; omega
      gi_wp2
      refine hR.mono ?_
      rintro e W3 (⟨rfl, hJ3, hk3⟩ | ⟨rfl, hJx3⟩)
      · gi_wp2
        go_roundw
        case rel => exact ⟨k + 1, z - 1, by omega, rfl, by omega, by rw [bwd_succ, hzk]; exact hJ3, hnx.trans hk3⟩
        case measure => simp [intOf, hw1]; omega
      · gi_wp2
        refine bodyPost_ret (results_none rfl _ _ _) rfl ?_
        exact ⟨⟨_, rfl⟩, .inr ⟨_, ⟨k + 1, by omega, by rw [bwd_succ, hzk]⟩, hJx3⟩⟩
    · have hkl : k = xs.length := by omega
      subst hkl
      have p1 : (z ≥ 0) = False := eq_false (by omega)
      have d1 : decide (z ≥ 0) = false := decide_eq_false (by omega)
      gi_wp2
      go_end0
      refine ⟨⟨_, rfl⟩, .inl ?_⟩
      first | exact hJs | exact ⟨_, rfl, hJs⟩
set_option maxHeartbeats 1000000 in
theorem slices_Backward.walk (F : Fence) (n : Nat) (h5 : F.fn 69) (hro : F.round = none) (a : Option Addr) (len cap : Nat) (w : World) :
    CallsIn F n Try.prog 69 #[.slice a len cap] w fun e w' => e = .returned (.func (.func 76) #[] #[.pointer (some ⟨w.heap.size, 0, none⟩)]) ∧ w' = w.alloc (.cells #[.slice a len cap] 55) := by
  refine callsIn_of_wp Try.func69 rfl h5 ?_ hro
  simp only [Try.ntmps69, List.size_toArray, List.length_cons, List.length_nil, Nat.reduceAdd, Nat.reduceSub, Array.replicate_succ, Array.replicate_zero, List.push_toArray, List.append_toArray, List.nil_append, List.cons_append]
  gi_wp2
  go_ret
  exact ⟨rfl, rfl⟩
theorem slices_Backward.stops (F : Fence) (n : Nat) (h7 : F.fn 76) (hro : F.round = none) (hn : 1 ≤ n) (Bs n₀ : Nat) (A : Option Addr) (c : Nat) (xs : List S76) (w : World) (hBs : Bs < w.heap.size) (hn₀ : n₀ ≤ w.heap.size) (hb : ∀ ad, A = some ad → xs ≠ [] → ad.block < n₀)
    (hbox : w.cell? ⟨Bs, 0, none⟩ = some (.slice A xs.length c)) (hc : Kd.C k76 w A xs.length xs) :
    SeqStopsK F n Try.prog 76 #[.pointer (some ⟨Bs, 0, none⟩)] (fun x : Int × S76 => #[Value.int .i64 x.1, Value.agg #[.int .u8 x.2.f0, .string x.2.f1]]) (KB Bs n₀) (fun ys => ys = bwd xs xs.length) (fun pre => ∃ k, k ≤ xs.length ∧ pre = bwd xs k) xs.length w := fun l J Jx W hW _ _ hY h0 =>
  slices_Backward_1.walk F n h7 hro hn l Bs n₀ A c xs hb J Jx hY W ((hW.cell (p := ⟨Bs, 0, none⟩) hBs).trans hbox) (Kd.C_below hc hW) h0
def fstep (s : Option (Bool × Bool)) (x : Int × S76) : Option (Bool × Bool) :=
  match s with
  | none => none
  | some (o, f) =>
    if (!(x.2.f0 == 32 || x.2.f0 == 45) && !(x.2.f0 == 32 || x.2.f0 == 43)) = true ∨ x.2.f1.toList = [] ∨ (0 ≤ Lib.indexByte x.2.f1.data.toList ((10 : Int).toNat.toUInt8) ∧ Lib.indexByte x.2.f1.data.toList ((10 : Int).toNat.toUInt8) < wrap64 ((x.2.f1.size : Int) - 1)) then none
    else if Lib.indexByte x.2.f1.data.toList ((10 : Int).toNat.toUInt8) < 0 ∧ (((x.2.f0 == 32 || x.2.f0 == 45) && o) || ((x.2.f0 == 32 || x.2.f0 == 43) && f)) = true then none
    else some (o || (x.2.f0 == 32 || x.2.f0 == 45), f || (x.2.f0 == 32 || x.2.f0 == 43))
def fst_ (pre : List (Int × S76)) : Option (Bool × Bool) := pre.foldl fstep (some (false, false))
theorem fst_snoc (pre : List (Int × S76)) (x : Int × S76) : fst_ (pre ++ [x]) = fstep (fst_ pre) x := by simp [fst_]
theorem fst_stuck (l : List (Int × S76)) : l.foldl fstep none = none := by
  induction l with
  | nil => rfl
  | cons x l ih => exact ih
theorem fst_none (xs : List S76) (k : Nat) (hk : k ≤ xs.length) (h : fst_ (bwd xs k) = none) : fst_ (bwd xs xs.length) = none := by
  have e : ∃ t, bwd xs xs.length = bwd xs k ++ t := by
    obtain ⟨d, hd⟩ : ∃ d, xs.length = k + d := ⟨xs.length - k, by omega⟩
    unfold bwd
    rw [show List.range xs.length = List.range k ++ (List.range d).map (k + ·) by rw [hd, List.range_add], List.map_append]
    exact ⟨_, rfl⟩
  obtain ⟨t, e⟩ := e
  rw [e]
  unfold fst_ at h ⊢
  rw [List.foldl_append, h, fst_stuck]
def hunks_fields.f (a0_0 a0_1 a0_2 a0_3 : Int) (l0_4 : List S76) : Option Bool := some (fst_ (bwd l0_4 l0_4.length)).isSome
def FI (w WL : World) (pre : List (Int × S76)) (W : World) : Prop := ((∃ o f, fst_ pre = some (o, f) ∧ Boxed W (w.heap.size + 1 + 1) 4 (.bool o) ∧ Boxed W (w.heap.size + 1 + 1 + 1) 4 (.bool f)) ∧ Boxed W (w.heap.size + 1) 4 (.bool false)) ∧ Below w.heap.size w W ∧ WL.heap.size ≤ W.heap.size
def FIx (w : World) (c : Code) (pre : List (Int × S76)) (W : World) : Prop := (c = .ret ∧ fst_ pre = none ∧ Boxed W (w.heap.size + 1) 4 (.bool false)) ∧ Below w.heap.size w W
theorem ff_bad {w W : World} {pre : List (Int × S76)} {nq B : Nat} (e4 : Boxed W (w.heap.size + 1) 4 (.bool false)) (e5 : Below w.heap.size w W) (h : fst_ pre = none) :
    KeepsFrom B W ((W.drewN nq).setCell ⟨w.heap.size + 1, 0, none⟩ (.bool false)) ∧ FIx w .ret pre ((W.drewN nq).setCell ⟨w.heap.size + 1, 0, none⟩ (.bool false)) :=
  ⟨(KeepsOthers.trans (⟨Nat.le_refl _, fun _ _ h _ => h⟩ : KeepsOthers W (W.drewN nq)) (KeepsOthers.setCell _ _ _)).from _, ⟨rfl, h, Boxed.set _ (show Boxed (W.drewN nq) _ _ _ from e4)⟩, (pw_below_drewN e5 nq).setCell (p := ⟨w.heap.size + 1, 0, none⟩) (by simp) _⟩
theorem ff_good {w WL W : World} {pre : List (Int × S76)} {nq B : Nat} {o f o2 f2 : Bool} (e2 : Boxed W (w.heap.size + 1 + 1) 4 (.bool o)) (e3 : Boxed W (w.heap.size + 1 + 1 + 1) 4 (.bool f)) (e4 : Boxed W (w.heap.size + 1) 4 (.bool false)) (e5 : Below w.heap.size w W) (e6 : WL.heap.size ≤ W.heap.size) (hL : w.heap.size + 5 ≤ WL.heap.size) (h : fst_ pre = some (o2, f2)) :
    KeepsFrom B W (((W.drewN nq).setCell ⟨w.heap.size + 1 + 1, 0, none⟩ (.bool o2)).setCell ⟨w.heap.size + 1 + 1 + 1, 0, none⟩ (.bool f2)) ∧ KB (w.heap.size + 1 + 1 + 1 + 1) w.heap.size W (((W.drewN nq).setCell ⟨w.heap.size + 1 + 1, 0, none⟩ (.bool o2)).setCell ⟨w.heap.size + 1 + 1 + 1, 0, none⟩ (.bool f2)) ∧
    FI w WL pre (((W.drewN nq).setCell ⟨w.heap.size + 1 + 1, 0, none⟩ (.bool o2)).setCell ⟨w.heap.size + 1 + 1 + 1, 0, none⟩ (.bool f2)) := by
  have d2 : Boxed (W.drewN nq) _ _ _ := e2
  have d3 : Boxed (W.drewN nq) _ _ _ := e3
  have d4 : Boxed (W.drewN nq) _ _ _ := e4
  have g1 := grownBy_setCell' (W.drewN nq) (w.heap.size + 1 + 1) (.bool o2)
  have g2 := grownBy_setCell' ((W.drewN nq).setCell ⟨w.heap.size + 1 + 1, 0, none⟩ (.bool o2)) (w.heap.size + 1 + 1 + 1) (.bool f2)
  have s1 : W.heap.size ≤ ((W.drewN nq).setCell ⟨w.heap.size + 1 + 1, 0, none⟩ (.bool o2)).heap.size := g1.size
  have s2 := g2.size
  refine ⟨((KeepsOthers.trans (⟨Nat.le_refl _, fun _ _ h _ => h⟩ : KeepsOthers W (W.drewN nq)) (KeepsOthers.setCell _ _ _)).trans (KeepsOthers.setCell _ _ _)).from _, ⟨((pw_below_drewN (Below.refl w.heap.size W) nq).setCell (p := ⟨w.heap.size + 1 + 1, 0, none⟩) (by simp; omega) _).setCell (p := ⟨w.heap.size + 1 + 1 + 1, 0, none⟩) (by simp; omega) _, ?_⟩, ⟨⟨⟨o2, f2, h, (d2.set _).other (by omega) _, (d3.other (by omega) _).set _⟩, (d4.other (by omega) _).other (by omega) _⟩, ((pw_below_drewN e5 nq).setCell (p := ⟨w.heap.size + 1 + 1, 0, none⟩) (by simp; omega) _).setCell (p := ⟨w.heap.size + 1 + 1 + 1, 0, none⟩) (by simp; omega) _, by omega⟩⟩
  exact (g2.block _ (by omega) (fun e => by injection e with e; omega)).trans (g1.block _ (show w.heap.size + 1 + 1 + 1 + 1 < W.heap.size by omega) (fun e => by injection e with e; omega))
set_option maxRecDepth 100000 in
set_option maxHeartbeats 4000000 in
theorem hunks_fields.calls (a0_0 a0_1 a0_2 a0_3 : Int) (A0_4 : Option Addr) (c0_4 : Nat) (l0_4 : List S76) (r : Bool) (w : World) (hr0_4 : Kd.C k76 w A0_4 l0_4.length l0_4) (hc0_4 : l0_4.length ≤ c0_4) (h : hunks_fields.f a0_0 a0_1 a0_2 a0_3 l0_4 = some r) :
    Calls Try.prog 60 #[.agg #[.int .i64 a0_0, .int .i64 a0_1, .int .i64 a0_2, .int .i64 a0_3, .slice A0_4 l0_4.length c0_4]] w fun e w' => e = .returned (.bool r) ∧ Below w.heap.size w w' := by
  unfold hunks_fields.f at h
  injection h with h
  subst h
  refine (callsIn_wide (n := 3)).1 ?_
  refine callsIn_of_wp_marks Try.func60 rfl trivial ?_ rfl
  simp only [Try.ntmps60, List.size_toArray, List.length_cons, List.length_nil, Nat.reduceAdd, Nat.reduceSub, Array.replicate_succ, Array.replicate_zero, List.push_toArray, List.append_toArray, List.nil_append, List.cons_append]
  gi_wp2
  refine ⟨trivial, ?_⟩
  refine (slices_Backward.walk Fence.wide _ trivial rfl _ _ _ _).mono ?_
  rintro e w' ⟨rfl, rfl⟩
  gi_wp2
  have hB0 : Below w.heap.size w (((((w.alloc (.cells #[.int .i64 a0_0, .int .i64 a0_1, .int .i64 a0_2, .int .i64 a0_3, .slice A0_4 l0_4.length c0_4] 57)).alloc (.cells #[.bool false] 4)).alloc (.cells #[.bool false] 4)).alloc (.cells #[.bool false] 4)).alloc (.cells #[.slice A0_4 l0_4.length c0_4] 55)) := (((((Below.refl _ w).alloc (Nat.le_refl _) _).alloc (by simp) _).alloc (by simp; omega) _).alloc (by simp; omega) _).alloc (by simp; omega) _
  have c1 := World.alloc_heap_new (w.alloc (.cells #[.int .i64 a0_0, .int .i64 a0_1, .int .i64 a0_2, .int .i64 a0_3, .slice A0_4 l0_4.length c0_4] 57)) (.cells #[.bool false] 4)
  have c2 := World.alloc_heap_new ((w.alloc (.cells #[.int .i64 a0_0, .int .i64 a0_1, .int .i64 a0_2, .int .i64 a0_3, .slice A0_4 l0_4.length c0_4] 57)).alloc (.cells #[.bool false] 4)) (.cells #[.bool false] 4)
  have c3 := World.alloc_heap_new (((w.alloc (.cells #[.int .i64 a0_0, .int .i64 a0_1, .int .i64 a0_2, .int .i64 a0_3, .slice A0_4 l0_4.length c0_4] 57)).alloc (.cells #[.bool false] 4)).alloc (.cells #[.bool false] 4)) (.cells #[.bool false] 4)
  have c4 := World.alloc_heap_new ((((w.alloc (.cells #[.int .i64 a0_0, .int .i64 a0_1, .int .i64 a0_2, .int .i64 a0_3, .slice A0_4 l0_4.length c0_4] 57)).alloc (.cells #[.bool false] 4)).alloc (.cells #[.bool false] 4)).alloc (.cells #[.bool false] 4)) (.cells #[.slice A0_4 l0_4.length c0_4] 55)
  simp only [World.size_alloc] at c1 c2 c3 c4
  have b1 := (((show Boxed _ _ _ _ from c1).alloc (.cells #[.bool false] 4)).alloc (.cells #[.bool false] 4)).alloc (.cells #[.slice A0_4 l0_4.length c0_4] 55)
  have b2 := ((show Boxed _ _ _ _ from c2).alloc (.cells #[.bool false] 4)).alloc (.cells #[.slice A0_4 l0_4.length c0_4] 55)
  have b3 := (show Boxed _ _ _ _ from c3).alloc (.cells #[.slice A0_4 l0_4.length c0_4] 55)
  have b4 := (show Boxed _ _ _ _ from c4)
  clear c1 c2 c3 c4
  obtain ⟨WL, hWL⟩ : ∃ WL, (((((w.alloc (.cells #[.int .i64 a0_0, .int .i64 a0_1, .int .i64 a0_2, .int .i64 a0_3, .slice A0_4 l0_4.length c0_4] 57)).alloc (.cells #[.bool false] 4)).alloc (.cells #[.bool false] 4)).alloc (.cells #[.bool false] 4)).alloc (.cells #[.slice A0_4 l0_4.length c0_4] 55)) = WL := ⟨_, rfl⟩
  have hsz : WL.heap.size = w.heap.size + 5 := by rw [← hWL]; simp
  rw [hWL] at b1 b2 b3 b4 hB0 ⊢
  clear hWL
  have hbb : ∀ ad, A0_4 = some ad → l0_4 ≠ [] → ad.block < w.heap.size := by
    rintro ad rfl hne
    obtain ⟨ad', e, x0, _⟩ := at_T76 hr0_4 0 (by omega) (by have := List.length_pos_iff.mpr hne; omega)
    cases e
    have := World.block_lt_of_cell? w _ x0
    simpa [Addr.add] using this
  refine wpIn_rangeFunc_ownH (w := WL) (w0 := WL) (n := 3) (F := Fence.wide) rfl (by omega) (gf := 76) (lb := #[.pointer (some ⟨w.heap.size + 1 + 1 + 1 + 1, 0, none⟩)]) rfl trivial (enters_of Try.func76 (by kernel_rfl) rfl)
    (slices_Backward.stops Fence.wide (3 - 1) trivial rfl (by omega) (w.heap.size + 1 + 1 + 1 + 1) w.heap.size A0_4 c0_4 l0_4 WL (by omega) (by omega) hbb b4.cell (Kd.C_below hr0_4 hB0)) (fun h k => h.trans k) ?hKb (Below.refl _ _) (fun _ => rfl)
    (FI w WL) (FIx w)
    ?hI ?hIx ⟨⟨⟨false, false, rfl, b2, b3⟩, b1⟩, hB0, Nat.le_refl _⟩
    (fun x a' W => ∃ Bx, w.heap.size + 5 ≤ Bx ∧ W.heap[Bx]? = some (.cells #[.int .u8 x.2.f0, .string x.2.f1] 76 (0, 0)) ∧ a' = { tmps := #[.agg #[.int .i64 a0_0, .int .i64 a0_1, .int .i64 a0_2, .int .i64 a0_3, .slice A0_4 l0_4.length c0_4], .pointer (some ⟨w.heap.size, 0, none⟩), .pointer (some ⟨w.heap.size + 1, 0, none⟩), .pointer (some ⟨w.heap.size + 1 + 1, 0, none⟩), .pointer (some ⟨w.heap.size + 1 + 1 + 1, 0, none⟩), undef, .pointer (some ⟨Bx, 0, none⟩), undef, undef, undef, .pointer (some ⟨w.heap.size, 4, none⟩), .slice A0_4 l0_4.length c0_4, .func (.func 76) #[] #[.pointer (some ⟨w.heap.size + 1 + 1 + 1 + 1, 0, none⟩)], .int .i64 x.1, .agg #[.int .u8 x.2.f0, .string x.2.f1], undef, undef, undef, undef, undef, undef, undef, undef, undef, undef, undef, undef, undef, undef, undef, undef, undef, undef, undef, undef, undef, undef, undef, undef, undef, undef, undef, undef, undef, undef, undef, undef, undef, undef, undef, undef, undef, undef, undef, undef, undef, undef, undef, undef, undef, undef, undef, undef, undef, undef, undef, undef, undef, undef, undef, undef, undef, undef, undef, undef, undef, undef, undef, undef], defers := [] }) ?hAx ?assign ?body ?done ?stop
  case hKb =>
    intro W l o o' hl ho h1 h2
    refine ⟨belowK_b (w := WL) (by omega) W l o o' hl ho h1 h2, ?_⟩
    exact World.putObj_heap_other (by omega)
  case hI =>
    intro s W W' row hs hg hr
    have hne : ∀ B, B < WL.heap.size → some B ≠ row := fun B hB e => by have := (hr _ e.symm).1; omega
    obtain ⟨⟨⟨o, f, e1, e2, e3⟩, e4⟩, e5, e6⟩ := hs
    exact ⟨⟨⟨o, f, e1, e2.kept hg (hne _ (by omega)), e3.kept hg (hne _ (by omega))⟩, e4.kept hg (hne _ (by omega))⟩, e5.grown hg (by have := e5.size; omega) (fun k e => by have := (hr k e).1; omega), Nat.le_trans e6 hg.size⟩
  case hIx =>
    intro c s W W' row hs hg hr
    have hne : ∀ B, B < WL.heap.size → some B ≠ row := fun B hB e => by have := (hr _ e.symm).1; omega
    obtain ⟨⟨e1, e2, e3⟩, e5⟩ := hs
    exact ⟨⟨e1, e2, e3.kept hg (hne _ (by omega))⟩, e5.grown hg (by have := e5.size; omega) (fun k e => by have := (hr k e).1; omega)⟩
  case hAx =>
    intro x a' s W W' row hs hg hr
    obtain ⟨Bx, h1, h2, h3⟩ := hs
    refine ⟨Bx, h1, (hg.block Bx (Array.getElem?_eq_some_iff.1 h2).1 (fun e => ?_)).trans h2, h3⟩
    obtain ⟨_, o, ho, hc⟩ := hr Bx e.symm
    rw [h2] at ho
    cases ho
    cases hc
  case assign =>
    intro l pre x W K hi hK
    gi_wp2
    obtain ⟨⟨⟨o, f, e1, e2, e3⟩, e4⟩, e5, e6⟩ := hi
    exact hK _ _ ((KeepsOthers.alloc _ _).from _) ⟨(Below.refl _ W).alloc e5.size _, Below.heap_alloc W _ _ (by omega)⟩ ⟨⟨⟨o, f, e1, e2.alloc _, e3.alloc _⟩, e4.alloc _⟩, e5.alloc e5.size _, by simp; omega⟩ ⟨W.heap.size, by omega, World.alloc_heap_new W _, rfl⟩
  case body =>
    rintro l pre x a' W hl ⟨r, hr⟩ ⟨⟨⟨o, f, e1, e2, e3⟩, e4⟩, e5, e6⟩ ⟨Bx, h1, h2, rfl⟩ hlt
    obtain ⟨z, sg, tx⟩ := x
    dsimp only at h2 ⊢
    obtain ⟨ix, hix⟩ : ∃ ix, Lib.indexByte tx.data.toList ((10 : Int).toNat.toUInt8) = ix := ⟨_, rfl⟩
    have hcon := strings_IndexByte.same tx 10
    rw [hix] at hcon
    have hd : 1 ≤ 3 - 1 - 1 := by omega
    have hmx : Try.prog.follows .mixedOrders = true := by kernel_rfl
    have x0 := blk_cell h2 0
    have x1 := blk_cell h2 1
    have c2 := e2.cell
    have c3 := e3.cell
    have c4 := e4.cell
    have z2 := e2.frozen
    have z3 := e3.frozen
    have z4 := e4.frozen
    gi_wp2
    refine ⟨trivial, ?_⟩
    refine (CallsIn.inRound l (callsIn_wide.2 (hcon _))).mono ?_
    rintro e w' ⟨rfl, rfl⟩
    have hst : fst_ (pre ++ [(z, ⟨sg, tx⟩)]) = fstep (some (o, f)) (z, ⟨sg, tx⟩) := by rw [fst_snoc, e1]
    gi_wp2
    clear x0 x1
    have x0 : w'.cell? ⟨Bx, 0, none⟩ = some (.int .u8 sg) := blk_cell h2 0
    have x1 : w'.cell? ⟨Bx, 1, none⟩ = some (.string tx) := blk_cell h2 1
    obtain ⟨lz, hlz⟩ : ∃ lz, wrap64 ((tx.size : Int) - 1) = lz := ⟨_, rfl⟩
    have HLZ := Aside0.mk hlz
    have HSZ := Aside0.mk hsz
    clear hsz
    have hix2 : Lib.indexByte tx.data.toList 10 = ix := hix
    have HL := Aside0.mk (show w.heap.size + 5 ≤ WL.heap.size by have := HSZ.out; omega)
    by_cases s1 : sg = 32
    · subst s1
      (refine quietR_lit (by rfl) hmx (by kernel_rfl) ?_; (repeat (gi_big_quiet_step (fail))); refine wpQuietIn_nil ?_; rintro _ ⟨nq, rfl⟩)
      by_cases hx : tx.toList = []
      · have hxe : tx.toList.isEmpty = true := by rw [hx]; rfl
        have hxb : (tx.toList == []) = true := by rw [hx]; rfl
        have hxd : decide (tx.toList = []) = true := decide_eq_true hx
        have hxp : (tx.toList = []) = True := eq_true hx
        have hb : fst_ (pre ++ [(z, ⟨_, tx⟩)]) = none := hst.trans (by simp [fstep, hx])
        gi_wp2
        all_goals first | exact ff_bad e4 e5 hb | (exfalso; have hq := (by assumption : some undef = some (Value.bool _)); exact absurd hq (by simp [undef]))
      have hxe : tx.toList.isEmpty = false := by cases hq : tx.toList with | nil => exact absurd hq hx | cons _ _ => rfl
      have hxb : (tx.toList == []) = false := beq_eq_false_iff_ne.mpr hx
      have hxd : decide (tx.toList = []) = false := decide_eq_false hx
      by_cases hi : 0 ≤ ix
      · have hi1 : decide (ix ≥ 0) = true := decide_eq_true hi
        have hi2 : (ix ≥ 0) = True := eq_true hi
        have hi3 : decide (ix < 0) = false := decide_eq_false (by omega)
        have hi4 : (ix < 0) = False := eq_false (by omega)
        have hi5 : ¬ ix < 0 := by omega
        by_cases hj : ix < lz
        · have hj1 : decide (ix < lz) = true := decide_eq_true hj
          have hb : fst_ (pre ++ [(z, ⟨_, tx⟩)]) = none := hst.trans (by simp [fstep, hix2, HLZ.out, hi, hj])
          gi_wp2
          all_goals first | exact ff_bad e4 e5 hb | (exfalso; have hq := (by assumption : some undef = some (Value.bool _)); exact absurd hq (by simp [undef]))
        · have hj1 : decide (ix < lz) = false := decide_eq_false hj
          cases o <;> cases f
          all_goals gi_wp2
          all_goals exact ff_good e2 e3 e4 e5 e6 HL.out (hst.trans (by simp [fstep, hix2, HLZ.out, hi, hj, hx, hi5]))
      · have hi1 : decide (ix ≥ 0) = false := decide_eq_false hi
        have hi2 : (ix ≥ 0) = False := eq_false hi
        have hi3 : decide (ix < 0) = true := decide_eq_true (by omega)
        have hi4 : (ix < 0) = True := eq_true (by omega)
        have hi5 : ix < 0 := by omega
        have hi6 : (0 ≤ ix) = False := eq_false hi
        cases o <;> cases f
        all_goals gi_wp2
        all_goals first | exact ff_bad e4 e5 (hst.trans (by simp [fstep, hix2, HLZ.out, hi6, hx, hi5])) | exact ff_good e2 e3 e4 e5 e6 HL.out (hst.trans (by simp [fstep, hix2, HLZ.out, hi6, hx, hi5]))
    by_cases s2 : sg = 45
    · subst s2
      (refine quietR_lit (by rfl) hmx (by kernel_rfl) ?_; (repeat (gi_big_quiet_step (fail))); refine wpQuietIn_nil ?_; rintro _ ⟨nq, rfl⟩)
      by_cases hx : tx.toList = []
      · have hxe : tx.toList.isEmpty = true := by rw [hx]; rfl
        have hxb : (tx.toList == []) = true := by rw [hx]; rfl
        have hxd : decide (tx.toList = []) = true := decide_eq_true hx
        have hxp : (tx.toList = []) = True := eq_true hx
        have hb : fst_ (pre ++ [(z, ⟨_, tx⟩)]) = none := hst.trans (by simp [fstep, hx])
        gi_wp2
        all_goals first | exact ff_bad e4 e5 hb | (exfalso; have hq := (by assumption : some undef = some (Value.bool _)); exact absurd hq (by simp [undef]))
      have hxe : tx.toList.isEmpty = false := by cases hq : tx.toList with | nil => exact absurd hq hx | cons _ _ => rfl
      have hxb : (tx.toList == []) = false := beq_eq_false_iff_ne.mpr hx
      have hxd : decide (tx.toList = []) = false := decide_eq_false hx
      by_cases hi : 0 ≤ ix
      · have hi1 : decide (ix ≥ 0) = true := decide_eq_true hi
        have hi2 : (ix ≥ 0) = True := eq_true hi
        have hi3 : decide (ix < 0) = false := decide_eq_false (by omega)
        have hi4 : (ix < 0) = False := eq_false (by omega)
        have hi5 : ¬ ix < 0 := by omega
        by_cases hj : ix < lz
        · have hj1 : decide (ix < lz) = true := decide_eq_true hj
          have hb : fst_ (pre ++ [(z, ⟨_, tx⟩)]) = none := hst.trans (by simp [fstep, hix2, HLZ.out, hi, hj])
          gi_wp2
          all_goals first | exact ff_bad e4 e5 hb | (exfalso; have hq := (by assumption : some undef = some (Value.bool _)); exact absurd hq (by simp [undef]))
        · have hj1 : decide (ix < lz) = false := decide_eq_false hj
          cases o <;> cases f
          all_goals gi_wp2
          all_goals exact ff_good e2 e3 e4 e5 e6 HL.out (hst.trans (by simp [fstep, hix2, HLZ.out, hi, hj, hx, hi5]))
      · have hi1 : decide (ix ≥ 0) = false := decide_eq_false hi
        have hi2 : (ix ≥ 0) = False := eq_false hi
        have hi3 : decide (ix < 0) = true := decide_eq_true (by omega)
        have hi4 : (ix < 0) = True := eq_true (by omega)
        have hi5 : ix < 0 := by omega
        have hi6 : (0 ≤ ix) = False := eq_false hi
        cases o <;> cases f
        all_goals gi_wp2
        all_goals first | exact ff_bad e4 e5 (hst.trans (by simp [fstep, hix2, HLZ.out, hi6, hx, hi5])) | exact ff_good e2 e3 e4 e5 e6 HL.out (hst.trans (by simp [fstep, hix2, HLZ.out, hi6, hx, hi5]))
    by_cases s3 : sg = 43
    · subst s3
      (refine quietR_lit (by rfl) hmx (by kernel_rfl) ?_; (repeat (gi_big_quiet_step (fail))); refine wpQuietIn_nil ?_; rintro _ ⟨nq, rfl⟩)
      by_cases hx : tx.toList = []
      · have hxe : tx.toList.isEmpty = true := by rw [hx]; rfl
        have hxb : (tx.toList == []) = true := by rw [hx]; rfl
        have hxd : decide (tx.toList = []) = true := decide_eq_true hx
        have hxp : (tx.toList = []) = True := eq_true hx
        have hb : fst_ (pre ++ [(z, ⟨_, tx⟩)]) = none := hst.trans (by simp [fstep, hx])
        gi_wp2
        all_goals first | exact ff_bad e4 e5 hb | (exfalso; have hq := (by assumption : some undef = some (Value.bool _)); exact absurd hq (by simp [undef]))
      have hxe : tx.toList.isEmpty = false := by cases hq : tx.toList with | nil => exact absurd hq hx | cons _ _ => rfl
      have hxb : (tx.toList == []) = false := beq_eq_false_iff_ne.mpr hx
      have hxd : decide (tx.toList = []) = false := decide_eq_false hx
      by_cases hi : 0 ≤ ix
      · have hi1 : decide (ix ≥ 0) = true := decide_eq_true hi
        have hi2 : (ix ≥ 0) = True := eq_true hi
        have hi3 : decide (ix < 0) = false := decide_eq_false (by omega)
        have hi4 : (ix < 0) = False := eq_false (by omega)
        have hi5 : ¬ ix < 0 := by omega
        by_cases hj : ix < lz
        · have hj1 : decide (ix < lz) = true := decide_eq_true hj
          have hb : fst_ (pre ++ [(z, ⟨_, tx⟩)]) = none := hst.trans (by simp [fstep, hix2, HLZ.out, hi, hj])
          gi_wp2
          all_goals first | exact ff_bad e4 e5 hb | (exfalso; have hq := (by assumption : some undef = some (Value.bool _)); exact absurd hq (by simp [undef]))
        · have hj1 : decide (ix < lz) = false := decide_eq_false hj
          cases o <;> cases f
          all_goals gi_wp2
          all_goals exact ff_good e2 e3 e4 e5 e6 HL.out (hst.trans (by simp [fstep, hix2, HLZ.out, hi, hj, hx, hi5]))
      · have hi1 : decide (ix ≥ 0) = false := decide_eq_false hi
        have hi2 : (ix ≥ 0) = False := eq_false hi
        have hi3 : decide (ix < 0) = true := decide_eq_true (by omega)
        have hi4 : (ix < 0) = True := eq_true (by omega)
        have hi5 : ix < 0 := by omega
        have hi6 : (0 ≤ ix) = False := eq_false hi
        cases o <;> cases f
        all_goals gi_wp2
        all_goals first | exact ff_bad e4 e5 (hst.trans (by simp [fstep, hix2, HLZ.out, hi6, hx, hi5])) | exact ff_good e2 e3 e4 e5 e6 HL.out (hst.trans (by simp [fstep, hix2, HLZ.out, hi6, hx, hi5]))
    have q1 : (sg == 32) = false := beq_eq_false_iff_ne.mpr s1
    have q2 : (sg == 45) = false := beq_eq_false_iff_ne.mpr s2
    have q3 : (sg == 43) = false := beq_eq_false_iff_ne.mpr s3
    have hb : fst_ (pre ++ [(z, ⟨_, tx⟩)]) = none := hst.trans (by simp [fstep, s1, s2, s3])
    (refine quietR_lit (by rfl) hmx (by kernel_rfl) ?_; (repeat (gi_big_quiet_step (fail))); refine wpQuietIn_nil ?_; rintro _ ⟨nq, rfl⟩)
    gi_wp2
    all_goals first | exact ff_bad e4 e5 hb | (exfalso; have hq := (by assumption : some undef = some (Value.bool _)); exact absurd hq (by simp [undef]))
  case done =>
    rintro D ys W hD rfl ⟨⟨⟨o, f, e1, e2, e3⟩, e4⟩, e5, e6⟩ hK
    have c4 := e4.cell
    have z4 := e4.frozen
    gi_wp2
    have hK' := (KeepsOthers.setCell W ⟨w.heap.size + 1, 0, none⟩ (.bool true)).same D _ hK rfl
    refine ⟨by simp, .inl ⟨_, _, rfl, run_takeDeferred hK', ?_⟩⟩
    have hc5 := cell_kept (World.cell?_setCell_same' W ⟨w.heap.size + 1, 0, none⟩ (.bool true) (by rw [c4]; rfl)) (grownBy_putObj' _ D (.deferred none)) (fun r e => by cases e; exact ⟨_, hK', rfl⟩)
    refine ⟨.bool true, ?_, ⟨by rw [e1]; rfl, (e5.setCell (p := ⟨w.heap.size + 1, 0, none⟩) (by simp) _).trans (belowK_b (w := WL) (by omega) _ D _ _ hD hK' rfl rfl)⟩⟩
    simp [results, Try.f60, go_sem, hc5]
  case stop =>
    rintro D c pre W hD ⟨k, hk, rfl⟩ ⟨⟨rfl, e2, e3⟩, e5⟩ hK
    have c4 := e3.cell
    have z4 := e3.frozen
    gi_wp2
    refine ⟨by simp, .inl ⟨_, _, rfl, run_takeDeferred hK, ?_⟩⟩
    have hc5 := cell_kept c4 (grownBy_putObj' _ D (.deferred none)) (fun r e => by cases e; exact ⟨_, hK, rfl⟩)
    refine ⟨.bool false, ?_, ⟨by rw [fst_none l0_4 k hk e2]; rfl, e5.trans (belowK_b (w := WL) (by omega) W D _ _ hD hK rfl rfl)⟩⟩
    simp [results, Try.f60, go_sem, hc5]
end
end Go.Proofs.Ytnbeppnpfdempaa.X
