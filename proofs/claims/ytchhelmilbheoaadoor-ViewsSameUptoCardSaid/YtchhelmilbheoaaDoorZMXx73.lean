import Derived.Test.YtchhelmilbheoaaDoorZMXx0
import Derived.Test.YtchhelmilbheoaaDoorZMXx41
import Derived.Test.YtchhelmilbheoaaDoorZMXx45
import Derived.Test.YtchhelmilbheoaaDoorZMXx57
import Derived.Deep.OwnRows
import Derived.Lib.Builder
import Derived.Lib.SmallJoins
import Derived.Test.YtchhelmilbheoaaDoorZMHs
namespace Go.Proofs.YtchhelmilbheoaaDoor.X
open Go.RowKit Go.Proofs.YtchhelmilbheoaaDoorW.PrintWords Go.Proofs.YtchhelmilbheoaaDoorW.PrintLast Go.Proofs.YtchhelmilbheoaaDoorW.PrintMore
attribute [local go_sem] max2_int min2_int max_two min_two max_three min_three max_four min_four   -- for this text's walks alone
open Go.Proofs.YtchhelmilbheoaaDoorW.HandWords
set_option linter.unusedVariables false
set_option linter.unusedSimpArgs false
namespace Vs
def TR1 : Bool × List (List Nat × List Nat) := (true, [([], []), ([], []), ([], []), ([2], [2]), ([1, 3], [1, 3]), ([4], [4]), ([5], [5]), ([], []), ([6, 7], [6, 7]), ([8], [8]), ([], []), ([], []), ([10, 11, 5], [10, 11]), ([9, 12], [9, 12]), ([0, 13], [0, 13]), ([14, 12, 0, 1, 2, 3, 4, 5, 6, 7, 8, 9, 10, 11, 12, 13, 14], [0, 2, 14])])
def BR1 : List Nat := [0, 0, 0, 4, 14, 30, 62, 0, 254, 510, 0, 0, 3134, 8190, 16383, 32767]
theorem tabR1 : rtab .any (opsOf Tryd.f30 1) = TR1 := by kernel_rfl
theorem bitsR1 : waitsOk TR1.2 BR1 = true := by kernel_rfl
def TK1 : Bool × List (List Nat × List Nat) := (true, [([], []), ([0], [0]), ([], []), ([2], [2]), ([1, 0, 1], [1]), ([3, 4, 0, 1, 2, 3, 4], [3])])
def BK1 : List Nat := [0, 1, 0, 4, 3, 31]
theorem tabK1 : rtab .any (opsOf Tryd.f33 1) = TK1 := by kernel_rfl
theorem bitsK1 : waitsOk TK1.2 BK1 = true := by kernel_rfl
def TK2 : Bool × List (List Nat × List Nat) := (true, [([], []), ([], []), ([], []), ([1, 2], [1, 2]), ([3], [3]), ([], []), ([], []), ([5, 6], [5, 6]), ([7], [7]), ([0, 4, 8], [0, 4, 8])])
def BK2 : List Nat := [0, 0, 0, 6, 14, 0, 0, 96, 224, 511]
theorem tabK2 : rtab .any (opsOf Tryd.f33 2) = TK2 := by kernel_rfl
theorem bitsK2 : waitsOk TK2.2 BK2 = true := by kernel_rfl
def TS18 : Bool × List (List Nat × List Nat) := (true, [([], []), ([], []), ([], []), ([2], [2]), ([], []), ([3, 4], [3, 4]), ([1, 5], [1, 5]), ([6], [6]), ([], []), ([], []), ([9], [9]), ([], []), ([10, 11], [10, 11]), ([8, 12], [8, 12]), ([13], [13]), ([0, 7, 14], [0, 7, 14])])
def BS18 : List Nat := [0, 0, 0, 4, 0, 28, 62, 126, 0, 0, 512, 0, 3584, 7936, 16128, 32767]
theorem tabS18 : rtab .any (opsOf Tryd.f10 18) = TS18 := by kernel_rfl
theorem bitsS18 : waitsOk TS18.2 BS18 = true := by kernel_rfl
def TS20 : Bool × List (List Nat × List Nat) := (true, [([], []), ([], []), ([], []), ([2], [2]), ([], []), ([3, 4], [3, 4]), ([1, 5], [1, 5]), ([6], [6]), ([0, 7], [0, 7])])
def BS20 : List Nat := [0, 0, 0, 4, 0, 28, 62, 126, 255]
theorem tabS20 : rtab .any (opsOf Tryd.f10 20) = TS20 := by kernel_rfl
theorem bitsS20 : waitsOk TS20.2 BS20 = true := by kernel_rfl
def TS22 : Bool × List (List Nat × List Nat) := (true, [([], []), ([], []), ([], []), ([2], [2]), ([], []), ([3, 4], [3, 4]), ([1, 5], [1, 5]), ([6], [6]), ([0, 7], [0, 7])])
def BS22 : List Nat := [0, 0, 0, 4, 0, 28, 62, 126, 255]
theorem tabS22 : rtab .any (opsOf Tryd.f10 22) = TS22 := by kernel_rfl
theorem bitsS22 : waitsOk TS22.2 BS22 = true := by kernel_rfl
def TS24 : Bool × List (List Nat × List Nat) := (true, [([], []), ([0], [0]), ([], []), ([2], [2]), ([1, 3], [1, 3]), ([], []), ([5], [5]), ([], []), ([7], [7]), ([6, 8], [6, 8]), ([4, 0, 1, 2, 3, 4], [4]), ([9, 10, 0, 1, 2, 3, 4, 5, 6, 7, 8, 9, 10], [9])])
def BS24 : List Nat := [0, 1, 0, 4, 15, 0, 32, 0, 128, 480, 31, 2047]
theorem tabS24 : rtab .any (opsOf Tryd.f10 24) = TS24 := by kernel_rfl
theorem bitsS24 : waitsOk TS24.2 BS24 = true := by kernel_rfl
theorem goesc_ {P : Program} {ops : Array Oper} {Q : Exit → Act → World → Prop} {oi : Oper} {N : Option Tmp} {a : Act} {w : World} {K : Act → World → Prop} {f : FuncId} {fn : Func} {cv : Operand} {cap : Array Value} {xs : Array Operand} {ts : Array TypeId} (hf : P.funcs[f]? = some fn) (hname : (fn.name == "runtime.NumGoroutine") = false) (hb : fn.body.isSome = true) (args : Array Value)
    (hw : Region.wanted oi (yielded ops a.tmps) = true) (hN : oi.dst = N) (hop : oi.op = .call { callee := .value cv, args := xs, argTypes := ts }) (hcv : a.eval cv = .func (.func f) #[] cap) (hargs : xs.map a.eval ++ cap = args)
    (h : Calls P f args w fun e w' => ∃ v, e = .returned v ∧ K (a.put N v) w') : if Region.wanted oi (yielded ops a.tmps) = true then Oper.wp P oi a w K Q else K (a.put N undef) w := by
  refine call_ f args hw hN ?_ h
  have he := enters_ hf hname hb args w
  unfold execOp
  simp [resolve, Deferred.ofValue, invoke, hop, hcv, hargs, he]
def shown (wd : Int) (s : ByteArray) : Option ByteArray := (lines_Bare.f s).bind fun t => (canon_Expand.f t.1).bind fun e => some (e.extract 0 (mn wd (e.size : Int)).toNat)
def line (wd : Int) (x s y : ByteArray) : ByteArray := x ++ ((⟨(Lib.repeatL (⟨#[32]⟩ : ByteArray).data.toList (wd - (x.size : Int)).toNat).toArray⟩ : ByteArray) ++ ⟨#[32]⟩ ++ s ++ ⟨#[32]⟩ ++ y)
def rowf (wd : Int) (l s r : ByteArray) : Option ByteArray := (shown wd l).bind fun x => (shown wd r).bind fun y => some ((⟨(Lib.trimRightB (line wd x s y).data.toList 32).toArray⟩ : ByteArray) ++ ⟨#[10]⟩)
theorem shown_size {wd : Int} {s x : ByteArray} (h0 : 1 ≤ wd) (h : shown wd s = some x) : (x.size : Int) ≤ wd := by
  unfold shown at h
  obtain ⟨t, _, h⟩ := Option.bind_eq_some_iff.mp h
  obtain ⟨e, _, h⟩ := Option.bind_eq_some_iff.mp h
  obtain rfl := Option.some.inj h
  rw [ByteArray.size_extract]
  unfold mn
  by_cases hh : (e.size : Int) < wd
  · rw [if_pos hh]; omega
  · rw [if_neg hh]; omega
set_option maxHeartbeats 1000000 in
set_option maxRecDepth 100000 in
theorem shown_calls (gw : Nat) (wd : Int) (s x : ByteArray) (w : World) (hw : w.heap[gw]? = some (.cells #[.int .i64 wd] 3 (0, 0))) (h0 : 1 ≤ wd) (h : shown wd s = some x) :
    Calls Tryd.prog 27 #[.string s, .pointer (some ⟨gw, 0, none⟩)] w fun e w' => e = .returned (.string x) ∧ Below w.heap.size w w' := by
  have HW := Aside0.mk hw
  unfold shown at h
  obtain ⟨⟨t, u⟩, h1, h⟩ := Option.bind_eq_some_iff.mp h
  obtain ⟨e0, h2, h⟩ := Option.bind_eq_some_iff.mp h
  have H1 := Aside0.mk h1
  have H2 := Aside0.mk h2
  have H3 := Aside0.mk (Option.some.inj h)
  obtain ⟨m, hm⟩ : ∃ m : Int, mn wd (e0.size : Int) = m := ⟨_, rfl⟩
  have hm2 : (if (e0.size : Int) < wd then (e0.size : Int) else wd) = m := hm
  have hm0 : 0 ≤ m := by rw [← hm]; unfold mn; split <;> omega
  have hm1 : m ≤ (e0.size : Int) := by rw [← hm]; unfold mn; split <;> omega
  have p1 := eq_true hm0
  have p2 := eq_true hm1
  have HM := Aside0.mk hm
  clear h h1 h2 hw hm
  go_enter Tryd.func27, Tryd.ntmps27
  go_wp2_with (first | (go_at_call 28; (with_reducible refine (lines_Bare.calls s t u _ H1.out).mono ?_); rintro e w1 ⟨rfl, hd1⟩; have n1_ := Aside0.mk hd1.below; have HW1 := Aside0.mk (blk_below HW.out hd1.below); clear hd1) | (go_at_call 29; (with_reducible refine (canon_Expand.calls t e0 _ H2.out).mono ?_); rintro e w2 ⟨rfl, hb2⟩; have n2_ := Aside0.mk (below_step n1_.out hb2); have c0 := (blk_cell (blk_below HW1.out hb2) 0).trans (show _ = some (Value.int .i64 wd) from rfl); clear hb2))
  go_ret
  exact ⟨by rw [← H3.out, HM.out]; rfl, n2_.out⟩
theorem trim_le (c : UInt8) (l : List UInt8) : (Lib.trimRightB l c).length ≤ l.length := by
  unfold Lib.trimRightB
  rw [List.length_reverse]
  refine Nat.le_trans (List.Sublist.length_le (List.dropWhile_sublist _)) ?_
  rw [List.length_reverse]
  exact Nat.le_refl _
set_option maxHeartbeats 4000000 in
set_option maxRecDepth 100000 in
theorem row_calls (gs gw gb : Nat) (wd : Int) (w0 : World) (acc : List UInt8) (l s r R : ByteArray) (w : World) (hs : w.heap[gs]? = some (.cells #[(Value.func (.func 27) #[] #[.pointer (some ⟨gw, 0, none⟩)])] 44 (0, 0))) (hw : w.heap[gw]? = some (.cells #[.int .i64 wd] 3 (0, 0))) (hx : Sb.Bs gb w0 w acc) (h0 : 1 ≤ wd) (h1 : wd ≤ 200) (hz : s.size ≤ 10) (h : rowf wd l s r = some R) (hlim : acc.length ≤ 100000000000000) :
    Calls Tryd.prog 30 #[.string l, .string s, .string r, .pointer (some ⟨gs, 0, none⟩), .pointer (some ⟨gw, 0, none⟩), .pointer (some ⟨gb, 0, none⟩)] w fun e w' => e = .returned (.tuple #[]) ∧ Sb.Bs gb w0 w' (acc ++ R.data.toList) ∧ Sb.Fb gb w w' := by
  unfold rowf at h
  obtain ⟨x, h2, h⟩ := Option.bind_eq_some_iff.mp h
  obtain ⟨y, h3, h⟩ := Option.bind_eq_some_iff.mp h
  have HR := Aside0.mk (Option.some.inj h)
  have HX := Aside0.mk h2
  have HY := Aside0.mk h3
  have HXS := shown_size h0 h2
  have HYS := shown_size h0 h3
  have HI := Aside0.mk hx
  have BS := Aside0.mk hs
  have BW := Aside0.mk hw
  have HF := Aside0.mk (show Sb.Fb gb w w from fun _ _ _ _ _ h => h)
  have HLIM := Aside0.mk hlim
  clear h h2 h3 hx hs hw hlim
  have hc0 := (blk_cell BS.out 0).trans (show _ = some (Value.func (.func 27) #[] #[.pointer (some ⟨gw, 0, none⟩)]) from rfl)
  go_enter Tryd.func30, Tryd.ntmps30
  go_upto_region 1 with (go_at_call 27; (with_reducible refine (shown_calls gw wd l x _ BW.out h0 HX.out).mono ?_); rintro e w1 ⟨rfl, hb⟩; have n1_ := Aside0.mk (HI.out.below hb); have n2_ := Aside0.mk (HF.out.trans (show Sb.Fb gb _ w1 from fun g cs t _ _ h3 => blk_below h3 hb)); have n3_ := Aside0.mk (blk_below BS.out hb); have n4_ := Aside0.mk (blk_below BW.out hb); clear HI HF BS BW hb; have HI := n1_; have HF := n2_; have BS := n3_; have BW := n4_; clear n1_ n2_ n3_ n4_)
  clear hc0
  obtain ⟨n, hn⟩ : ∃ n : Nat, wd - (x.size : Int) = (n : Int) := ⟨(wd - (x.size : Int)).toNat, by omega⟩
  have hn1 : n ≤ 200 := by omega
  have HN1 := Aside0.mk hn1
  have hn2 : wrap64 (wd - (x.size : Int)) = (n : Int) := by rw [hn]; unfold wrap64; omega
  obtain ⟨sp, hsp⟩ : ∃ sp : ByteArray, (⟨(Lib.repeatL (⟨#[32]⟩ : ByteArray).data.toList n).toArray⟩ : ByteArray) = sp := ⟨_, rfl⟩
  have hss : sp.size = n := by rw [← hsp, Sb.rep_eq, Lib.size_eq]; simp
  have HLN : Aside0 (line wd x s y = x ++ (sp ++ ⟨#[32]⟩ ++ s ++ ⟨#[32]⟩ ++ y)) := ⟨by unfold line; rw [hn, Int.toNat_natCast, hsp]⟩
  have HSP := Aside0.mk hsp
  have HSS := Aside0.mk hss
  have q1 : sp.size + 1 ≤ 9223372036854775807 := by omega
  have q2 : sp.size + 1 + s.size ≤ 9223372036854775807 := by omega
  have q3 : sp.size + 1 + s.size + 1 ≤ 9223372036854775807 := by omega
  have q4 : sp.size + 1 + s.size + 1 + y.size ≤ 9223372036854775807 := by omega
  have q5 : x.size + (sp.size + 1 + s.size + 1 + y.size) ≤ 9223372036854775807 := by omega
  have HQ := Aside0.mk (show (line wd x s y).size ≤ 9223372036854775807 ∧ (line wd x s y).size ≤ 1000 by rw [HLN.out]; simp only [ByteArray.size_append]; have e : (⟨#[32]⟩ : ByteArray).size = 1 := rfl; rw [e]; omega)
  clear hn hsp hss hn1
  have n1_ := Aside0.mk (HI.out.below ((Below.refl w1.heap.size w1).drew))
  have n2_ := Aside0.mk (HF.out.trans (show Sb.Fb gb w1 w1.drew from fun g cs t _ _ h3 => h3))
  have n3_ : Aside0 (w1.drew.heap[gs]? = some (.cells #[(Value.func (.func 27) #[] #[.pointer (some ⟨gw, 0, none⟩)])] 44 (0, 0))) := ⟨BS.out⟩
  have n4_ : Aside0 (w1.drew.heap[gw]? = some (.cells #[.int .i64 wd] 3 (0, 0))) := ⟨BW.out⟩
  clear HI HF BS BW
  have HI := n1_
  have HF := n2_
  have BS := n3_
  have BW := n4_
  clear n1_ n2_ n3_ n4_
  refine start_ (n := 16) (S := fun w' => w'.cell? ⟨gw, 0, none⟩ = some (.int .i64 wd) ∧ w'.cell? ⟨gs, 0, none⟩ = some (Value.func (.func 27) #[] #[.pointer (some ⟨gw, 0, none⟩)])) (ds := []) #[false, false, false, false, false, false, false, false, false, false, false, false, false, false, false, false] (by kernel_rfl) rfl rfl ⟨(blk_cell BW.out 0).trans rfl, (blk_cell BS.out 0).trans rfl⟩ (fun hHeld => ?_)
  refine with_tabW tabR1 bitsR1 (fun HT_ HW_ => ?_)
  generalize w1.drew = w2 at HI HF BS BW hHeld ⊢
  refine pure_ (i := 0) (N := some 13) (v := ?_) (a' := ?_) #[true, false, false, false, false, false, false, false, false, false, false, false, false, false, false, false] rfl rfl (any_of HT_.out (by kernel_rfl)) (fun _ _ _ h => h) (Or.inl ⟨by rfl, ?_⟩) ?_ ?_
  rotate_left
  · intro w'
    go_simp
    with_reducible rfl
  rotate_left
  · simp only [Act.put, List.setIfInBounds_toArray, List.set_cons_zero, List.set_cons_succ, i64_w, i32_w]
    rfl
  refine take_ (i := 1) (N := some 14) (v := ?_) (a' := ?_) #[true, true, false, false, false, false, false, false, false, false, false, false, false, false, false, false] rfl rfl (take_ofW HT_.out HW_.out (by kernel_rfl)) (fun _ _ _ h => h) (Or.inl ⟨by rfl, ?_⟩) hHeld ?_ ?_
  rotate_left
  · rintro w' ⟨s0, s1⟩
    go_simp
    with_reducible rfl
  rotate_left
  · simp only [Act.put, List.setIfInBounds_toArray, List.set_cons_zero, List.set_cons_succ, i64_w, i32_w]
    rfl
  refine pure_ (i := 2) (N := some 15) (v := ?_) (a' := ?_) #[true, true, true, false, false, false, false, false, false, false, false, false, false, false, false, false] rfl rfl (any_of HT_.out (by kernel_rfl)) (fun _ _ _ h => h) (Or.inl ⟨by rfl, ?_⟩) ?_ ?_
  rotate_left
  · intro w'
    go_simp
    with_reducible rfl
  rotate_left
  · simp only [Act.put, List.setIfInBounds_toArray, List.set_cons_zero, List.set_cons_succ, i64_w, i32_w]
    rfl
  refine pure_ (i := 3) (N := some 16) (v := ?_) (a' := ?_) #[true, true, true, true, false, false, false, false, false, false, false, false, false, false, false, false] rfl rfl (any_of HT_.out (by kernel_rfl)) (fun _ _ _ h => h) (Or.inl ⟨by rfl, ?_⟩) ?_ ?_
  rotate_left
  · intro w'
    go_simp
    with_reducible rfl
  rotate_left
  · simp only [Act.put, List.setIfInBounds_toArray, List.set_cons_zero, List.set_cons_succ, i64_w, i32_w]
    rfl
  refine pure_ (i := 4) (N := some 17) (v := ?_) (a' := ?_) #[true, true, true, true, true, false, false, false, false, false, false, false, false, false, false, false] rfl rfl (any_of HT_.out (by kernel_rfl)) (fun _ _ _ h => h) (Or.inl ⟨by rfl, ?_⟩) ?_ ?_
  rotate_left
  · intro w'
    go_simp
    with_reducible rfl
  rotate_left
  · simp only [Act.put, List.setIfInBounds_toArray, List.set_cons_zero, List.set_cons_succ, i64_w, i32_w]
    rfl
  refine pure_ (i := 7) (N := some 20) (v := ?_) (a' := ?_) #[true, true, true, true, true, false, false, true, false, false, false, false, false, false, false, false] rfl rfl (any_of HT_.out (by kernel_rfl)) (fun _ _ _ h => h) (Or.inl ⟨by rfl, ?_⟩) ?_ ?_
  rotate_left
  · intro w'
    go_simp
    with_reducible rfl
  rotate_left
  · simp only [Act.put, List.setIfInBounds_toArray, List.set_cons_zero, List.set_cons_succ, i64_w, i32_w]
    rfl
  refine take_ (i := 10) (N := some 23) (v := ?_) (a' := ?_) #[true, true, true, true, true, false, false, true, false, false, true, false, false, false, false, false] rfl rfl (take_ofW HT_.out HW_.out (by kernel_rfl)) (fun _ _ _ h => h) (Or.inl ⟨by rfl, ?_⟩) hHeld ?_ ?_
  rotate_left
  · rintro w' ⟨s0, s1⟩
    go_simp
    with_reducible rfl
  rotate_left
  · simp only [Act.put, List.setIfInBounds_toArray, List.set_cons_zero, List.set_cons_succ, i64_w, i32_w]
    rfl
  refine pure_ (i := 11) (N := some 24) (v := ?_) (a' := ?_) #[true, true, true, true, true, false, false, true, false, false, true, true, false, false, false, false] rfl rfl (any_of HT_.out (by kernel_rfl)) (fun _ _ _ h => h) (Or.inl ⟨by rfl, ?_⟩) ?_ ?_
  rotate_left
  · intro w'
    go_simp
    with_reducible rfl
  rotate_left
  · simp only [Act.put, List.setIfInBounds_toArray, List.set_cons_zero, List.set_cons_succ, i64_w, i32_w]
    rfl
  refine one_ (i := 5) (N := some 18) #[true, true, true, true, true, true, false, true, false, false, true, true, false, false, false, false] rfl rfl (one_of HT_.out (by kernel_rfl)) (by decide) (fun K hK => ?_)
  refine goes_ Tryd.func31 (by kernel_rfl) rfl #[.string ⟨#[32]⟩, .int .i64 (wrap64 (wd - (x.size : Int)))] (by rfl) rfl rfl (by (try simp only [List.map_toArray, List.map_cons, List.map_nil]); first | done | rfl) ?_
  refine (show Calls Tryd.prog 31 #[.string ⟨#[32]⟩, .int .i64 (wrap64 (wd - (x.size : Int)))] w2 _ by rw [hn2]; exact (Tryd.strings_Repeat ⟨#[32]⟩ n w2 (by have := HN1.out; omega) (by have := HN1.out; show 1 * n ≤ _; omega))).mono ?_
  rintro e' w3 ⟨rfl, hb⟩
  refine ⟨_, rfl, ?_⟩
  rw [HSP.out]
  have n1_ := Aside0.mk (HI.out.below hb)
  have n2_ := Aside0.mk (HF.out.trans (show Sb.Fb gb w2 w3 from fun g cs t _ _ h3 => blk_below h3 hb))
  have n3_ := Aside0.mk (blk_below BS.out hb)
  have n4_ := Aside0.mk (blk_below BW.out hb)
  clear HI HF BS BW hHeld
  have HI := n1_
  have HF := n2_
  have BS := n3_
  have BW := n4_
  clear n1_ n2_ n3_ n4_
  clear hb
  refine hK.out _ _ ⟨(blk_cell BW.out 0).trans rfl, (blk_cell BS.out 0).trans rfl⟩ (fun hHeld => ?_)
  clear hK K
  refine norm_ (a' := ?_) ?_ ?_
  rotate_left
  · show Act.put _ (some 18) _ = _
    simp only [Act.put, List.setIfInBounds_toArray, List.set_cons_zero, List.set_cons_succ, i64_w, i32_w]
    rfl
  refine pure_ (i := 6) (N := some 19) (v := ?_) (a' := ?_) #[true, true, true, true, true, true, true, true, false, false, true, true, false, false, false, false] rfl rfl (any_of HT_.out (by kernel_rfl)) (fun _ _ _ h => h) (Or.inl ⟨by rfl, ?_⟩) ?_ ?_
  rotate_left
  · intro w'
    go_simp
    rw [if_neg (by omega)]
  rotate_left
  · simp only [Act.put, List.setIfInBounds_toArray, List.set_cons_zero, List.set_cons_succ, i64_w, i32_w]
    rfl
  refine pure_ (i := 8) (N := some 21) (v := ?_) (a' := ?_) #[true, true, true, true, true, true, true, true, true, false, true, true, false, false, false, false] rfl rfl (any_of HT_.out (by kernel_rfl)) (fun _ _ _ h => h) (Or.inl ⟨by rfl, ?_⟩) ?_ ?_
  rotate_left
  · intro w'
    go_simp
    rw [if_neg (by omega)]
  rotate_left
  · simp only [Act.put, List.setIfInBounds_toArray, List.set_cons_zero, List.set_cons_succ, i64_w, i32_w]
    rfl
  refine pure_ (i := 9) (N := some 22) (v := ?_) (a' := ?_) #[true, true, true, true, true, true, true, true, true, true, true, true, false, false, false, false] rfl rfl (any_of HT_.out (by kernel_rfl)) (fun _ _ _ h => h) (Or.inl ⟨by rfl, ?_⟩) ?_ ?_
  rotate_left
  · intro w'
    go_simp
    rw [if_neg (by omega)]
  rotate_left
  · simp only [Act.put, List.setIfInBounds_toArray, List.set_cons_zero, List.set_cons_succ, i64_w, i32_w]
    rfl
  refine one_ (i := 12) (N := some 25) #[true, true, true, true, true, true, true, true, true, true, true, true, true, false, false, false] rfl rfl (one_of HT_.out (by kernel_rfl)) (by decide) (fun K hK => ?_)
  refine Vs.goesc_ Tryd.func27 (by kernel_rfl) rfl #[.string r, .pointer (some ⟨gw, 0, none⟩)] (by rfl) rfl rfl rfl (by (try simp only [List.map_toArray, List.map_cons, List.map_nil]); first | done | rfl) ?_
  refine (shown_calls gw wd r y w3 BW.out h0 HY.out).mono ?_
  rintro e' w4 ⟨rfl, hb⟩
  refine ⟨_, rfl, ?_⟩
  have n1_ := Aside0.mk (HI.out.below hb)
  have n2_ := Aside0.mk (HF.out.trans (show Sb.Fb gb w3 w4 from fun g cs t _ _ h3 => blk_below h3 hb))
  have n3_ := Aside0.mk (blk_below BS.out hb)
  have n4_ := Aside0.mk (blk_below BW.out hb)
  clear HI HF BS BW hHeld
  have HI := n1_
  have HF := n2_
  have BS := n3_
  have BW := n4_
  clear n1_ n2_ n3_ n4_
  clear hb
  refine hK.out _ _ ⟨(blk_cell BW.out 0).trans rfl, (blk_cell BS.out 0).trans rfl⟩ (fun hHeld => ?_)
  clear hK K
  refine norm_ (a' := ?_) ?_ ?_
  rotate_left
  · show Act.put _ (some 25) _ = _
    simp only [Act.put, List.setIfInBounds_toArray, List.set_cons_zero, List.set_cons_succ, i64_w, i32_w]
    rfl
  refine pure_ (i := 13) (N := some 26) (v := ?_) (a' := ?_) #[true, true, true, true, true, true, true, true, true, true, true, true, true, true, false, false] rfl rfl (any_of HT_.out (by kernel_rfl)) (fun _ _ _ h => h) (Or.inl ⟨by rfl, ?_⟩) ?_ ?_
  rotate_left
  · intro w'
    go_simp
    rw [if_neg (by omega)]
  rotate_left
  · simp only [Act.put, List.setIfInBounds_toArray, List.set_cons_zero, List.set_cons_succ, i64_w, i32_w]
    rfl
  refine pure_ (i := 14) (N := some 27) (v := ?_) (a' := ?_) #[true, true, true, true, true, true, true, true, true, true, true, true, true, true, true, false] rfl rfl (any_of HT_.out (by kernel_rfl)) (fun _ _ _ h => h) (Or.inl ⟨by rfl, ?_⟩) ?_ ?_
  rotate_left
  · intro w'
    go_simp
    rw [if_neg (by omega)]
  rotate_left
  · simp only [Act.put, List.setIfInBounds_toArray, List.set_cons_zero, List.set_cons_succ, i64_w, i32_w]
    rfl
  refine pure_ (i := 15) (N := some 9) (v := ?_) (a' := ?_) #[true, true, true, true, true, true, true, true, true, true, true, true, true, true, true, true] rfl rfl (any_of HT_.out (by kernel_rfl)) (fun _ _ _ h => h) (Or.inl ⟨by rfl, ?_⟩) ?_ ?_
  rotate_left
  · intro w'
    go_simp
    with_reducible rfl
  rotate_left
  · simp only [Act.put, List.setIfInBounds_toArray, List.set_cons_zero, List.set_cons_succ, i64_w, i32_w]
    rfl
  refine done_ (done_of HT_.out (by kernel_rfl)) ?_
  clear hHeld
  rw [← HLN.out]
  have hq := HQ.out
  have hr := HR.out
  obtain ⟨z, hz⟩ : ∃ z, line wd x s y = z := ⟨_, rfl⟩
  rw [hz] at hq hr ⊢
  obtain ⟨tr, htr⟩ : ∃ tr : ByteArray, (⟨(Lib.trimRightB z.data.toList 32).toArray⟩ : ByteArray) = tr := ⟨_, rfl⟩
  rw [htr] at hr
  have HTR := Aside0.mk htr
  have HR2 := Aside0.mk hr
  have htz : tr.size ≤ z.size := by rw [← htr, Lib.size_eq, Lib.size_eq]; exact trim_le _ _
  have HTZ : Aside0 (tr.size ≤ 1000) := ⟨by omega⟩
  have HZ : Aside0 (z.size ≤ 9223372036854775807) := ⟨hq.1⟩
  have q6 : tr.size + 1 ≤ 9223372036854775807 := by omega
  have q7 := eq_true q6
  have q8 : (9223372036854775807 < tr.size + 1) = False := eq_false (Nat.not_lt.2 q6)
  clear hz hq hr htr htz q1 q2 q3 q4 q5 HT_ HW_
  go_wp2_with (first | (go_at_call 32; (with_reducible refine (Tryd.strings_TrimRight_one z 32 (by decide) _ HZ.out).mono ?_); rintro e w5 ⟨rfl, rfl⟩; rw [HTR.out]) | (go_at_call 20; (with_reducible refine (Sb.write gb w0 acc (tr ++ (⟨#[10]⟩ : ByteArray)) _ HI.out (by rw [ByteArray.size_append]; have := HTZ.out; have := HLIM.out; have e : (⟨#[10]⟩ : ByteArray).size = 1 := rfl; rw [e]; omega)).mono ?_); rintro e w6 ⟨rfl, hx6, hf6⟩; have n1_ := Aside0.mk hx6; have n2_ := Aside0.mk (HF.out.trans hf6); clear hx6 hf6))
  go_end0
  refine ⟨rfl, ?_, n2_.out⟩
  rw [← HR2.out]
  exact n1_.out
theorem ne_ty {W : World} {a b : Nat} {c1 c2 : Array Value} {t1 t2 : TypeId} {f1 f2 : Nat × Nat} (h1 : W.heap[a]? = some (.cells c1 t1 f1)) (h2 : W.heap[b]? = some (.cells c2 t2 f2)) (h : t1 ≠ t2) : a ≠ b := by
  rintro rfl
  rw [h1] at h2
  injection h2 with h2
  injection h2 with _ h3 _
  exact h h3
structure Ev (gi gj gr gA gB gs gw gb : Nat) (A1 : Option Addr) (n1 c1 : Nat) (A2 : Option Addr) (n2 c2 : Nat) (wd : Int) (w0 : World) (i j : Int) (acc : List UInt8) (W : World) : Prop where
  x : Sb.Bs gb w0 W acc
  bi : W.heap[gi]? = some (.cells #[.int .i64 i] 3 (0, 0))
  bj : W.heap[gj]? = some (.cells #[.int .i64 j] 3 (0, 0))
  br : W.heap[gr]? = some (.cells #[(Value.func (.func 30) #[] #[.pointer (some ⟨gs, 0, none⟩), .pointer (some ⟨gw, 0, none⟩), .pointer (some ⟨gb, 0, none⟩)])] 69 (0, 0))
  ba : W.heap[gA]? = some (.cells #[.slice A1 n1 c1] 34 (0, 0))
  bb : W.heap[gB]? = some (.cells #[.slice A2 n2 c2] 34 (0, 0))
  bs : W.heap[gs]? = some (.cells #[(Value.func (.func 27) #[] #[.pointer (some ⟨gw, 0, none⟩)])] 44 (0, 0))
  bw : W.heap[gw]? = some (.cells #[.int .i64 wd] 3 (0, 0))
  nij : gi ≠ gj
  nwi : gw ≠ gi
  nwj : gw ≠ gj
  gi_ : w0.heap.size ≤ gi
  gj_ : w0.heap.size ≤ gj
section
variable {gi gj gr gA gB gs gw gb : Nat} {A1 : Option Addr} {n1 c1 : Nat} {A2 : Option Addr} {n2 c2 : Nat} {wd : Int} {w0 : World} {i j : Int} {acc : List UInt8} {W : World}
theorem Ev.row (h : Ev gi gj gr gA gB gs gw gb A1 n1 c1 A2 n2 c2 wd w0 i j acc W) {acc2 : List UInt8} {W2 : World} (hx : Sb.Bs gb w0 W2 acc2) (hf : Sb.Fb gb W W2) : Ev gi gj gr gA gB gs gw gb A1 n1 c1 A2 n2 c2 wd w0 i j acc2 W2 := by
  obtain ⟨cs, hc⟩ := Sb.is_cell h.x.i
  exact ⟨hx, hf _ _ _ (ne_ty h.bi hc (by decide)) (by decide) h.bi, hf _ _ _ (ne_ty h.bj hc (by decide)) (by decide) h.bj, hf _ _ _ (ne_ty h.br hc (by decide)) (by decide) h.br, hf _ _ _ (ne_ty h.ba hc (by decide)) (by decide) h.ba, hf _ _ _ (ne_ty h.bb hc (by decide)) (by decide) h.bb, hf _ _ _ (ne_ty h.bs hc (by decide)) (by decide) h.bs, hf _ _ _ (ne_ty h.bw hc (by decide)) (by decide) h.bw, h.nij, h.nwi, h.nwj, h.gi_, h.gj_⟩
theorem Ev.below (h : Ev gi gj gr gA gB gs gw gb A1 n1 c1 A2 n2 c2 wd w0 i j acc W) {W2 : World} (hb : Below W.heap.size W W2) : Ev gi gj gr gA gB gs gw gb A1 n1 c1 A2 n2 c2 wd w0 i j acc W2 := h.row (h.x.below hb) (fun g cs t _ _ h3 => blk_below h3 hb)
theorem Ev.drew (h : Ev gi gj gr gA gB gs gw gb A1 n1 c1 A2 n2 c2 wd w0 i j acc W) : Ev gi gj gr gA gB gs gw gb A1 n1 c1 A2 n2 c2 wd w0 i j acc W.drew := h.below (Below.refl _ _).drew
theorem Ev.seti (h : Ev gi gj gr gA gB gs gw gb A1 n1 c1 A2 n2 c2 wd w0 i j acc W) (i2 : Int) : Ev gi gj gr gA gB gs gw gb A1 n1 c1 A2 n2 c2 wd w0 i2 j acc (W.setCell ⟨gi, 0, none⟩ (.int .i64 i2)) := by
  obtain ⟨cs, hc⟩ := Sb.is_cell h.x.i
  exact ⟨h.x.far h.bi (Ne.symm (ne_ty h.bi hc (by decide))) (by decide) h.gi_ 0 _, blk_put h.bi 0 _ rfl, blk_far h.bj (Ne.symm h.nij) _, blk_far h.br (ne_ty h.br h.bi (by decide)) _, blk_far h.ba (ne_ty h.ba h.bi (by decide)) _, blk_far h.bb (ne_ty h.bb h.bi (by decide)) _, blk_far h.bs (ne_ty h.bs h.bi (by decide)) _, blk_far h.bw h.nwi _, h.nij, h.nwi, h.nwj, h.gi_, h.gj_⟩
theorem Ev.setj (h : Ev gi gj gr gA gB gs gw gb A1 n1 c1 A2 n2 c2 wd w0 i j acc W) (j2 : Int) : Ev gi gj gr gA gB gs gw gb A1 n1 c1 A2 n2 c2 wd w0 i j2 acc (W.setCell ⟨gj, 0, none⟩ (.int .i64 j2)) := by
  obtain ⟨cs, hc⟩ := Sb.is_cell h.x.i
  exact ⟨h.x.far h.bj (Ne.symm (ne_ty h.bj hc (by decide))) (by decide) h.gj_ 0 _, blk_far h.bi h.nij _, blk_put h.bj 0 _ rfl, blk_far h.br (ne_ty h.br h.bj (by decide)) _, blk_far h.ba (ne_ty h.ba h.bj (by decide)) _, blk_far h.bb (ne_ty h.bb h.bj (by decide)) _, blk_far h.bs (ne_ty h.bs h.bj (by decide)) _, blk_far h.bw h.nwj _, h.nij, h.nwi, h.nwj, h.gi_, h.gj_⟩
theorem Ev.put (h : Ev gi gj gr gA gB gs gw gb A1 n1 c1 A2 n2 c2 wd w0 i j acc W) {g t : Nat} {cs : Array Value} (hb : W.heap[g]? = some (.cells cs t (0, 0))) (t1 : t ≠ 3) (t2 : t ≠ 34) (t3 : t ≠ 44) (t4 : t ≠ 69) (t5 : t ≠ 56) (t6 : t ≠ 5) (hg : w0.heap.size ≤ g) (k : Nat) (v : Value) : Ev gi gj gr gA gB gs gw gb A1 n1 c1 A2 n2 c2 wd w0 i j acc (W.setCell ⟨g, k, none⟩ v) := by
  obtain ⟨cs2, hc⟩ := Sb.is_cell h.x.i
  exact ⟨h.x.far hb (ne_ty hc hb (Ne.symm t5)) t6 hg k _, blk_far h.bi (ne_ty h.bi hb (Ne.symm t1)) _, blk_far h.bj (ne_ty h.bj hb (Ne.symm t1)) _, blk_far h.br (ne_ty h.br hb (Ne.symm t4)) _, blk_far h.ba (ne_ty h.ba hb (Ne.symm t2)) _, blk_far h.bb (ne_ty h.bb hb (Ne.symm t2)) _, blk_far h.bs (ne_ty h.bs hb (Ne.symm t3)) _, blk_far h.bw (ne_ty h.bw hb (Ne.symm t1)) _, h.nij, h.nwi, h.nwj, h.gi_, h.gj_⟩
end
def Fk (gb gi gj : Nat) (w w' : World) : Prop := ∀ (g : Nat) (cs : Array Value) (t : TypeId), g ≠ gb → g ≠ gi → g ≠ gj → t ≠ 5 → w.heap[g]? = some (.cells cs t (0, 0)) → w'.heap[g]? = some (.cells cs t (0, 0))
theorem Fk.refl (gb gi gj : Nat) (w : World) : Fk gb gi gj w w := fun _ _ _ _ _ _ _ h => h
theorem Fk.row {gb gi gj : Nat} {w w1 w2 : World} (h : Fk gb gi gj w w1) (hf : Sb.Fb gb w1 w2) : Fk gb gi gj w w2 := fun g cs t n1 n2 n3 n4 h3 => hf g cs t n1 n4 (h g cs t n1 n2 n3 n4 h3)
theorem Fk.seti {gb gi gj : Nat} {w w1 : World} (h : Fk gb gi gj w w1) (v : Value) : Fk gb gi gj w (w1.setCell ⟨gi, 0, none⟩ v) := fun g cs t n1 n2 n3 n4 h3 => blk_far (h g cs t n1 n2 n3 n4 h3) n2 _
theorem Fk.setj {gb gi gj : Nat} {w w1 : World} (h : Fk gb gi gj w w1) (v : Value) : Fk gb gi gj w (w1.setCell ⟨gj, 0, none⟩ v) := fun g cs t n1 n2 n3 n4 h3 => blk_far (h g cs t n1 n2 n3 n4 h3) n3 _
theorem Fk.drew {gb gi gj : Nat} {w w1 : World} (h : Fk gb gi gj w w1) : Fk gb gi gj w w1.drew := h
def kept (wd : Int) (a b : List ByteArray) : Nat → Int → Int → Option (List UInt8)
  | 0, _, _ => some []
  | n + 1, i, j => if 0 ≤ i ∧ i < (a.length : Int) ∧ 0 ≤ j ∧ j < (b.length : Int) then (rowf wd (rdOf ByteArray.empty a i) ⟨#[32]⟩ (rdOf ByteArray.empty b j)).bind fun r => (kept wd a b n (i + 1) (j + 1)).bind fun R => some (r.data.toList ++ R) else none
set_option maxHeartbeats 4000000 in
set_option maxRecDepth 100000 in
theorem kept_calls (gi gj gr gA gB gs gw gb : Nat) (A1 : Option Addr) (c1 : Nat) (l1 : List ByteArray) (A2 : Option Addr) (c2 : Nat) (l2 : List ByteArray) (wd : Int) (w0 : World) (acc R : List UInt8) (i j to_ : Int) (n : Nat) (w : World) (h : Ev gi gj gr gA gB gs gw gb A1 l1.length c1 A2 l2.length c2 wd w0 i j acc w) (hr1 : Kd.C Kd.string w0 A1 l1.length l1) (hr2 : Kd.C Kd.string w0 A2 l2.length l2) (hn : i + (n : Int) = to_) (hR : kept wd l1 l2 n i j = some R) (hlim : acc.length + R.length ≤ 100000000000000) (h0 : 1 ≤ wd) (h1 : wd ≤ 200) (hl1 : l1.length ≤ 1000000000000) (hl2 : l2.length ≤ 1000000000000) :
    Calls Tryd.prog 33 #[.int .i64 to_, .pointer (some ⟨gi, 0, none⟩), .pointer (some ⟨gj, 0, none⟩), .pointer (some ⟨gr, 0, none⟩), .pointer (some ⟨gA, 0, none⟩), .pointer (some ⟨gB, 0, none⟩)] w fun e w' => e = .returned (.tuple #[]) ∧ Ev gi gj gr gA gB gs gw gb A1 l1.length c1 A2 l2.length c2 wd w0 (i + n) (j + n) (acc ++ R) w' ∧ Fk gb gi gj w w' := by
  have HE := Aside0.mk h
  have HF := Aside0.mk (Fk.refl gb gi gj w)
  have HR1 := Aside0.mk hr1
  have HR2 := Aside0.mk hr2
  have HN := Aside0.mk hn
  have HK := Aside0.mk hR
  have HL := Aside0.mk hlim
  have HL1 := Aside0.mk hl1
  have HL2 := Aside0.mk hl2
  clear h hr1 hr2 hn hR hlim hl1 hl2
  go_enter Tryd.func33, Tryd.ntmps33
  go_wp2
  go_loopg [] n (fun q w' => ∃ (i' j' : Int) (ac R1 : List UInt8), Aside0 (i' + (q : Int) = to_ ∧ j' + (q : Int) = j + n ∧ ac ++ R1 = acc ++ R) ∧ Aside0 (kept wd l1 l2 q i' j' = some R1) ∧ Aside0 (Ev gi gj gr gA gB gs gw gb A1 l1.length c1 A2 l2.length c2 wd w0 i' j' ac w') ∧ Aside0 (Fk gb gi gj w w'))
  case atStart => exact ⟨i, j, acc, R, ⟨HN.out, rfl, rfl⟩, HK, HE, HF⟩
  case round =>
    clear HK HE HF
    obtain ⟨i', j', ac, R1, HZ, HK, HE, HF⟩ := hrel
    have ci := (blk_cell HE.out.bi 0).trans (show _ = some (Value.int .i64 i') from rfl)
    cases gk with
    | zero =>
      have hp : (i' < to_) = False := eq_false (by have := HZ.out.1; omega)
      have hk := HK.out
      rw [kept] at hk
      obtain rfl := Option.some.inj hk
      go_wp2
      go_end0
      have h2 := HZ.out.2.2
      rw [List.append_nil] at h2
      rw [← h2]
      have e1 : i + (n : Int) = i' := by have := HZ.out.1; have := HN.out; omega
      have e2 : j + (n : Int) = j' := by have := HZ.out.2.1; omega
      rw [e1, e2]
      exact ⟨rfl, HE.out, HF.out⟩
    | succ q1 =>
      have hp : (i' < to_) = True := eq_true (by have := HZ.out.1; omega)
      have hk := HK.out
      rw [kept] at hk
      by_cases hb : 0 ≤ i' ∧ i' < (l1.length : Int) ∧ 0 ≤ j' ∧ j' < (l2.length : Int)
      case neg => rw [if_neg hb] at hk; cases hk
      rw [if_pos hb] at hk
      obtain ⟨b1, b2, b3, b4⟩ := hb
      obtain ⟨r, hr, hk⟩ := Option.bind_eq_some_iff.mp hk
      obtain ⟨R2, hk2, hk⟩ := Option.bind_eq_some_iff.mp hk
      have HK2 := Aside0.mk hk2
      have HKE := Aside0.mk (Option.some.inj hk)
      have HRW := Aside0.mk hr
      have HLA : Aside0 (ac.length ≤ 100000000000000) := ⟨by have h := congrArg List.length HZ.out.2.2; rw [List.length_append, List.length_append] at h; have := HL.out; omega⟩
      obtain ⟨ad1, ea1, hx1⟩ := Kd.at_string HR1.out i' b1 b2
      obtain ⟨ad2, ea2, hx2⟩ := Kd.at_string HR2.out j' b3 b4
      cases ea1
      cases ea2
      have HX1 := Aside0.mk hx1
      have HX2 := Aside0.mk hx2
      obtain ⟨s1, hs1⟩ : ∃ s, rdOf ByteArray.empty l1 i' = s := ⟨_, rfl⟩
      obtain ⟨s2, hs2⟩ : ∃ s, rdOf ByteArray.empty l2 j' = s := ⟨_, rfl⟩
      have p1 := eq_true b1
      have p2 := eq_true b2
      have p3 := eq_true b3
      have p4 := eq_true b4
      have hw1 : wrap64 (i' + 1) = i' + 1 := by have := HL1.out; unfold wrap64; omega
      have hw2 : wrap64 (j' + 1) = j' + 1 := by have := HL2.out; unfold wrap64; omega
      have HI := Aside0.mk b1
      clear hk hk2 hr hx1 hx2 b1 b2 b3 b4 HK
      go_upto_region 2 with (fail)
      have n1_ := Aside0.mk HE.out.drew
      clear HE ci
      have HE := n1_
      clear n1_
      rw [hs1] at HX1 HRW
      rw [hs2] at HX2 HRW
      refine start_ (n := 10) (S := fun w' => w'.cell? ⟨gr, 0, none⟩ = some (Value.func (.func 30) #[] #[.pointer (some ⟨gs, 0, none⟩), .pointer (some ⟨gw, 0, none⟩), .pointer (some ⟨gb, 0, none⟩)]) ∧ w'.cell? ⟨gA, 0, none⟩ = some (.slice (some ad1) l1.length c1) ∧ w'.cell? ⟨gi, 0, none⟩ = some (.int .i64 i') ∧ w'.cell? ⟨gB, 0, none⟩ = some (.slice (some ad2) l2.length c2) ∧ w'.cell? ⟨gj, 0, none⟩ = some (.int .i64 j') ∧ w'.cell? (ad1.add i'.toNat) = some (.string s1) ∧ w'.cell? (ad2.add j'.toNat) = some (.string s2)) (ds := [9]) #[false, false, false, false, false, false, false, false, false, false] (by kernel_rfl) rfl rfl ⟨(blk_cell HE.out.br 0).trans rfl, (blk_cell HE.out.ba 0).trans rfl, (blk_cell HE.out.bi 0).trans rfl, (blk_cell HE.out.bb 0).trans rfl, (blk_cell HE.out.bj 0).trans rfl, (HE.out.x.b_.cell (World.block_lt_of_cell? w0 _ HX1.out)).trans HX1.out, (HE.out.x.b_.cell (World.block_lt_of_cell? w0 _ HX2.out)).trans HX2.out⟩ (fun hHeld => ?_)
      refine with_tabW tabK2 bitsK2 (fun HT_ HW_ => ?_)
      have n1_ := Aside0.mk HF.out.drew
      clear HF
      have HF := n1_
      clear n1_
      generalize wr.drew = w2 at HE HF hHeld ⊢
      refine take_ (i := 0) (N := some 14) (v := ?_) (a' := ?_) #[true, false, false, false, false, false, false, false, false, false] rfl rfl (take_ofW HT_.out HW_.out (by kernel_rfl)) (fun _ _ _ h => h) (Or.inl ⟨by rfl, ?_⟩) hHeld ?_ ?_
      rotate_left
      · rintro w' ⟨s0_, s1_, s2_, s3_, s4_, s5_, s6_⟩
        go_simp
        with_reducible rfl
      rotate_left
      · simp only [Act.put, List.setIfInBounds_toArray, List.set_cons_zero, List.set_cons_succ, i64_w, i32_w]
        rfl
      refine take_ (i := 1) (N := some 15) (v := ?_) (a' := ?_) #[true, true, false, false, false, false, false, false, false, false] rfl rfl (take_ofW HT_.out HW_.out (by kernel_rfl)) (fun _ _ _ h => h) (Or.inl ⟨by rfl, ?_⟩) hHeld ?_ ?_
      rotate_left
      · rintro w' ⟨s0_, s1_, s2_, s3_, s4_, s5_, s6_⟩
        go_simp
        with_reducible rfl
      rotate_left
      · simp only [Act.put, List.setIfInBounds_toArray, List.set_cons_zero, List.set_cons_succ, i64_w, i32_w]
        rfl
      refine take_ (i := 2) (N := some 16) (v := ?_) (a' := ?_) #[true, true, true, false, false, false, false, false, false, false] rfl rfl (take_ofW HT_.out HW_.out (by kernel_rfl)) (fun _ _ _ h => h) (Or.inl ⟨by rfl, ?_⟩) hHeld ?_ ?_
      rotate_left
      · rintro w' ⟨s0_, s1_, s2_, s3_, s4_, s5_, s6_⟩
        go_simp
        with_reducible rfl
      rotate_left
      · simp only [Act.put, List.setIfInBounds_toArray, List.set_cons_zero, List.set_cons_succ, i64_w, i32_w]
        rfl
      refine pure_ (i := 3) (N := some 17) (v := ?_) (a' := ?_) #[true, true, true, true, false, false, false, false, false, false] rfl rfl (any_of HT_.out (by kernel_rfl)) (fun _ _ _ h => h) (Or.inl ⟨by rfl, ?_⟩) ?_ ?_
      rotate_left
      · intro w'
        go_simp
        with_reducible rfl
      rotate_left
      · simp only [Act.put, List.setIfInBounds_toArray, List.set_cons_zero, List.set_cons_succ, i64_w, i32_w]
        rfl
      refine take_ (i := 4) (N := some 18) (v := ?_) (a' := ?_) #[true, true, true, true, true, false, false, false, false, false] rfl rfl (take_ofW HT_.out HW_.out (by kernel_rfl)) (fun _ _ _ h => h) (Or.inl ⟨by rfl, ?_⟩) hHeld ?_ ?_
      rotate_left
      · rintro w' ⟨s0_, s1_, s2_, s3_, s4_, s5_, s6_⟩
        go_simp
        with_reducible rfl
      rotate_left
      · simp only [Act.put, List.setIfInBounds_toArray, List.set_cons_zero, List.set_cons_succ, i64_w, i32_w]
        rfl
      refine take_ (i := 5) (N := some 19) (v := ?_) (a' := ?_) #[true, true, true, true, true, true, false, false, false, false] rfl rfl (take_ofW HT_.out HW_.out (by kernel_rfl)) (fun _ _ _ h => h) (Or.inl ⟨by rfl, ?_⟩) hHeld ?_ ?_
      rotate_left
      · rintro w' ⟨s0_, s1_, s2_, s3_, s4_, s5_, s6_⟩
        go_simp
        with_reducible rfl
      rotate_left
      · simp only [Act.put, List.setIfInBounds_toArray, List.set_cons_zero, List.set_cons_succ, i64_w, i32_w]
        rfl
      refine take_ (i := 6) (N := some 20) (v := ?_) (a' := ?_) #[true, true, true, true, true, true, true, false, false, false] rfl rfl (take_ofW HT_.out HW_.out (by kernel_rfl)) (fun _ _ _ h => h) (Or.inl ⟨by rfl, ?_⟩) hHeld ?_ ?_
      rotate_left
      · rintro w' ⟨s0_, s1_, s2_, s3_, s4_, s5_, s6_⟩
        go_simp
        with_reducible rfl
      rotate_left
      · simp only [Act.put, List.setIfInBounds_toArray, List.set_cons_zero, List.set_cons_succ, i64_w, i32_w]
        rfl
      refine pure_ (i := 7) (N := some 21) (v := ?_) (a' := ?_) #[true, true, true, true, true, true, true, true, false, false] rfl rfl (any_of HT_.out (by kernel_rfl)) (fun _ _ _ h => h) (Or.inl ⟨by rfl, ?_⟩) ?_ ?_
      rotate_left
      · intro w'
        go_simp
        with_reducible rfl
      rotate_left
      · simp only [Act.put, List.setIfInBounds_toArray, List.set_cons_zero, List.set_cons_succ, i64_w, i32_w]
        rfl
      refine take_ (i := 8) (N := some 22) (v := ?_) (a' := ?_) #[true, true, true, true, true, true, true, true, true, false] rfl rfl (take_ofW HT_.out HW_.out (by kernel_rfl)) (fun _ _ _ h => h) (Or.inl ⟨by rfl, ?_⟩) hHeld ?_ ?_
      rotate_left
      · rintro w' ⟨s0_, s1_, s2_, s3_, s4_, s5_, s6_⟩
        go_simp
        with_reducible rfl
      rotate_left
      · simp only [Act.put, List.setIfInBounds_toArray, List.set_cons_zero, List.set_cons_succ, i64_w, i32_w]
        rfl
      refine last_ (i := 9) (N := some 23) #[true, true, true, true, true, true, true, true, true, true] rfl rfl (one_of HT_.out (by kernel_rfl)) (by decide) (fun K hK => ?_)
      refine Vs.goesc_ Tryd.func30 (by kernel_rfl) rfl #[.string s1, .string ⟨#[32]⟩, .string s2, .pointer (some ⟨gs, 0, none⟩), .pointer (some ⟨gw, 0, none⟩), .pointer (some ⟨gb, 0, none⟩)] (by rfl) rfl rfl rfl (by (try simp only [List.map_toArray, List.map_cons, List.map_nil]); first | done | rfl) ?_
      refine (row_calls gs gw gb wd w0 ac s1 ⟨#[32]⟩ s2 r w2 HE.out.bs HE.out.bw HE.out.x h0 h1 (by decide) HRW.out HLA.out).mono ?_
      rintro e' w3 ⟨rfl, hx3, hf3⟩
      refine ⟨_, rfl, ?_⟩
      have n1_ := Aside0.mk (HE.out.row hx3 hf3)
      have n2_ := Aside0.mk (HF.out.row hf3)
      clear HE HF hx3 hf3 hHeld
      have HE := n1_
      have HF := n2_
      clear n1_ n2_
      refine hK.out _ _ ?_
      clear hK K
      refine norm_ (a' := ?_) ?_ ?_
      rotate_left
      · show Act.put _ (some 23) _ = _
        simp only [Act.put, List.setIfInBounds_toArray, List.set_cons_zero, List.set_cons_succ, i64_w, i32_w]
        rfl
      refine done_ (done_of HT_.out (by kernel_rfl)) ?_
      clear HT_ HW_
      go_upto_region 1 with (fail)
      have n1_ := Aside0.mk HE.out.drew
      clear HE
      have HE := n1_
      clear n1_
      refine start_ (n := 6) (S := fun w' => w'.cell? ⟨gj, 0, none⟩ = some (.int .i64 j')) (ds := [5]) #[false, false, false, false, false, false] (by kernel_rfl) rfl rfl ((blk_cell HE.out.bj 0).trans rfl) (fun hHeld => ?_)
      refine with_tabW tabK1 bitsK1 (fun HT_ HW_ => ?_)
      have n1_ := Aside0.mk HF.out.drew
      clear HF
      have HF := n1_
      clear n1_
      generalize w3.drew = w4 at HE HF hHeld ⊢
      have ci := (blk_cell HE.out.bi 0).trans (show _ = some (Value.int .i64 i') from rfl)
      have zi := blk_frozen HE.out.bi 0
      refine take_ (i := 2) (N := some 12) (v := ?_) (a' := ?_) #[false, false, true, false, false, false] rfl rfl (take_ofW HT_.out HW_.out (by kernel_rfl)) (fun _ _ _ h => h) (Or.inl ⟨by rfl, ?_⟩) hHeld ?_ ?_
      rotate_left
      · rintro w' s0_
        go_simp
        with_reducible rfl
      rotate_left
      · simp only [Act.put, List.setIfInBounds_toArray, List.set_cons_zero, List.set_cons_succ, i64_w, i32_w]
        rfl
      refine pure_ (i := 3) (N := some 13) (v := ?_) (a' := ?_) #[false, false, true, true, false, false] rfl rfl (any_of HT_.out (by kernel_rfl)) (fun _ _ _ h => h) (Or.inl ⟨by rfl, ?_⟩) ?_ ?_
      rotate_left
      · intro w'
        go_simp
        with_reducible rfl
      rotate_left
      · simp only [Act.put, List.setIfInBounds_toArray, List.set_cons_zero, List.set_cons_succ, i64_w, i32_w]
        rfl
      refine one_ (i := 0) (N := some 10) #[true, false, true, true, false, false] rfl rfl (one_of HT_.out (by kernel_rfl)) (by decide) (fun K hK => ?_)
      refine value_ (v := .int .i64 i') (w1 := w4) (by rfl) rfl (by go_simp) ?_
      refine hK.out _ _ ((blk_cell HE.out.bj 0).trans rfl) (fun hHeld => ?_)
      clear hK K
      refine norm_ (a' := ?_) ?_ ?_
      rotate_left
      · show Act.put _ (some 10) _ = _
        simp only [Act.put, List.setIfInBounds_toArray, List.set_cons_zero, List.set_cons_succ, i64_w, i32_w]
        rfl
      refine pure_ (i := 1) (N := some 11) (v := ?_) (a' := ?_) #[true, true, true, true, false, false] rfl rfl (any_of HT_.out (by kernel_rfl)) (fun _ _ _ h => h) (Or.inl ⟨by rfl, ?_⟩) ?_ ?_
      rotate_left
      · intro w'
        go_simp
        with_reducible rfl
      rotate_left
      · simp only [Act.put, List.setIfInBounds_toArray, List.set_cons_zero, List.set_cons_succ, i64_w, i32_w]
        rfl
      refine one_ (i := 4) (N := none) #[true, true, true, true, true, false] rfl rfl (one_of HT_.out (by kernel_rfl)) (by decide) (fun K hK => ?_)
      refine skip_ (w1 := w4.setCell ⟨gi, 0, none⟩ (.int .i64 (i' + 1))) (by rfl) rfl (by go_simp) ?_
      have n1_ := Aside0.mk (HE.out.seti (i' + 1))
      have n2_ := Aside0.mk (HF.out.seti (.int .i64 (i' + 1)))
      clear HE HF ci zi hHeld
      have HE := n1_
      have HF := n2_
      clear n1_ n2_
      generalize w4.setCell ⟨gi, 0, none⟩ (.int .i64 (i' + 1)) = w5 at HE HF ⊢
      refine hK.out _ _ ((blk_cell HE.out.bj 0).trans rfl) (fun hHeld => ?_)
      clear hK K
      have cj := (blk_cell HE.out.bj 0).trans (show _ = some (Value.int .i64 j') from rfl)
      have zj := blk_frozen HE.out.bj 0
      refine last_ (i := 5) (N := none) #[true, true, true, true, true, true] rfl rfl (one_of HT_.out (by kernel_rfl)) (by decide) (fun K hK => ?_)
      refine skip_ (w1 := w5.setCell ⟨gj, 0, none⟩ (.int .i64 (j' + 1))) (by rfl) rfl (by go_simp) ?_
      have n1_ := Aside0.mk (HE.out.setj (j' + 1))
      have n2_ := Aside0.mk (HF.out.setj (.int .i64 (j' + 1)))
      clear HE HF cj zj hHeld
      have HE := n1_
      have HF := n2_
      clear n1_ n2_
      generalize w5.setCell ⟨gj, 0, none⟩ (.int .i64 (j' + 1)) = w6 at HE HF ⊢
      refine hK.out _ _ ?_
      clear hK K
      refine done_ (done_of HT_.out (by kernel_rfl)) ?_
      clear HT_ HW_
      try go_wp2
      go_roundg q1
      case measure => omega
      case rel => exact ⟨i' + 1, j' + 1, ac ++ r.data.toList, R2, ⟨by have := HZ.out.1; omega, by have := HZ.out.2.1; omega, by rw [List.append_assoc, HKE.out]; exact HZ.out.2.2⟩, HK2, HE, HF⟩
theorem nb_ {b : Nat} {w0 W : World} {l : List UInt8} (h : Sb.Bs b w0 W l) {g t : Nat} {cs : Array Value} (hb : W.heap[g]? = some (.cells cs t (0, 0))) (ht : t ≠ 56) : g ≠ b := by
  obtain ⟨cs2, hc⟩ := Sb.is_cell h.i
  exact ne_ty hb hc ht
def chg (wd : Int) (a b : List ByteArray) (c : S72) : Nat → Int → Option (List UInt8)
  | 0, _ => some []
  | n + 1, k => (if k ≥ c.f3 then (if 0 ≤ c.f0 + k ∧ c.f0 + k < (a.length : Int) then rowf wd (rdOf ByteArray.empty a (c.f0 + k)) ⟨#[60]⟩ ⟨#[]⟩ else none) else if k ≥ c.f1 then (if 0 ≤ c.f2 + k ∧ c.f2 + k < (b.length : Int) then rowf wd ⟨#[]⟩ ⟨#[62]⟩ (rdOf ByteArray.empty b (c.f2 + k)) else none) else (if 0 ≤ c.f0 + k ∧ c.f0 + k < (a.length : Int) ∧ 0 ≤ c.f2 + k ∧ c.f2 + k < (b.length : Int) then rowf wd (rdOf ByteArray.empty a (c.f0 + k)) ⟨#[124]⟩ (rdOf ByteArray.empty b (c.f2 + k)) else none)).bind fun r => (chg wd a b c n (k + 1)).bind fun R => some (r.data.toList ++ R)
def okc (n m i j : Int) (c : S72) : Prop := 0 ≤ i ∧ 0 ≤ j ∧ i ≤ c.f0 ∧ 0 ≤ c.f1 ∧ c.f0 + c.f1 ≤ n ∧ 0 ≤ c.f2 ∧ 0 ≤ c.f3 ∧ c.f2 + c.f3 ≤ m
instance (n m i j : Int) (c : S72) : Decidable (okc n m i j c) := by unfold okc; exact inferInstance
def run (wd : Int) (a b : List ByteArray) : List S72 → Int → Int → List UInt8 → Option (Int × Int × List UInt8)
  | [], i, j, acc => some (i, j, acc)
  | c :: l, i, j, acc => if okc (a.length : Int) (b.length : Int) i j c then (kept wd a b (c.f0 - i).toNat i j).bind fun r1 => (chg wd a b c (mx c.f1 c.f3).toNat 0).bind fun r2 => if acc.length + r1.length + r2.length ≤ 100000000000000 then run wd a b l (c.f0 + c.f1) (c.f2 + c.f3) (acc ++ r1 ++ r2) else none else none
end Vs
def views_Side.f (k : Nat) (l0 : List S72) (l1 l2 : List ByteArray) (a3 : Int) : Option (ByteArray × Int) :=
  (edits_Check.f k l0 (l1.length : Int) (l2.length : Int)).bind fun e => if e = 0 then (if a3 < 1 then some (⟨#[]⟩, 2) else if a3 > 200 then some (⟨#[]⟩, 2) else if l0.length ≤ 1000000000000 ∧ l1.length ≤ 1000000000000 ∧ l2.length ≤ 1000000000000 then (Vs.run a3 l1 l2 l0 0 0 []).bind fun t => (if 0 ≤ t.1 ∧ t.1 ≤ (l1.length : Int) then (Vs.kept a3 l1 l2 ((l1.length : Int) - t.1).toNat t.1 t.2.1).bind fun r => if t.2.2.length + r.length ≤ 100000000000000 then some (⟨(t.2.2 ++ r).toArray⟩, 0) else none else none) else none) else some (⟨#[]⟩, e)
set_option maxHeartbeats 8000000 in
set_option maxRecDepth 100000 in
theorem views_Side.calls (k : Nat) (A0 : Option Addr) (c0 : Nat) (l0 : List S72) (A1 : Option Addr) (c1 : Nat) (l1 : List ByteArray) (A2 : Option Addr) (c2 : Nat) (l2 : List ByteArray) (a3 : Int) (r1 : ByteArray) (r2 : Int) (w : World) (hr0 : Kd.C k72 w A0 l0.length l0) (hc0 : l0.length ≤ c0) (hr1 : Kd.C Kd.string w A1 l1.length l1) (hc1 : l1.length ≤ c1) (hr2 : Kd.C Kd.string w A2 l2.length l2) (hc2 : l2.length ≤ c2) (h : views_Side.f k l0 l1 l2 a3 = some (r1, r2)) :
    Calls Tryd.prog 10 #[.slice A0 l0.length c0, .slice A1 l1.length c1, .slice A2 l2.length c2, .int .i64 a3] w fun e w' => e = .returned (.tuple #[.string r1, .int .i64 r2]) ∧ Below w.heap.size w w' := by
  have HR0 := Aside0.mk hr0
  have HC0 := Aside0.mk hc0
  have HR1 := Aside0.mk hr1
  have HR2 := Aside0.mk hr2
  have HB := Aside0.mk (Below.refl w.heap.size w)
  clear hr0 hc0 hr1 hr2
  unfold views_Side.f at h
  obtain ⟨e0, he, h⟩ := Option.bind_eq_some_iff.mp h
  have HE0 := Aside0.mk he
  clear he
  by_cases he0 : e0 = 0
  case neg =>
    rw [if_neg he0] at h
    injection h with h
    injection h with h1 h2
    subst h1 h2
    have q1 : (e0 != 0) = true := bne_iff_ne.mpr he0
    go_enter Tryd.func10, Tryd.ntmps10
    go_wp2_with (first | ((with_reducible refine gate_dst (N := 5) rfl ?_); refine box_event ?hg (N := 5) ?hd (cs := #[.slice A1 l1.length c1]) (t := 34) ?hr ?_; (case hd => rfl); (case hg => rfl); (case hr => first | (go_simp; done) | (go_simp; rfl)); intro gA hg wa hbox hb; have GBA := Aside0.mk (by rw [hg]; exact HB.out.size : w.heap.size ≤ gA); have m0_ := Aside0.mk (below_step HB.out hb); clear HB; have HB := m0_; clear m0_; have BA := Aside0.mk hbox; clear hbox hg hb) | ((with_reducible refine gate_dst (N := 6) rfl ?_); refine box_event ?hg (N := 6) ?hd (cs := #[.slice A2 l2.length c2]) (t := 34) ?hr ?_; (case hd => rfl); (case hg => rfl); (case hr => first | (go_simp; done) | (go_simp; rfl)); intro gB hg wb hbox hb; have GBB := Aside0.mk (by rw [hg]; exact HB.out.size : w.heap.size ≤ gB); have m0_ := Aside0.mk (below_step HB.out hb); have m1_ := Aside0.mk (blk_below BA.out hb); clear HB BA; have HB := m0_; have BA := m1_; clear m0_ m1_; have BB := Aside0.mk hbox; clear hbox hg hb; have cA := (blk_cell BA.out 0).trans (show _ = some (Value.slice A1 l1.length c1) from rfl); have cB := (blk_cell BB.out 0).trans (show _ = some (Value.slice A2 l2.length c2) from rfl)) | ((with_reducible refine gate_dst (N := 7) rfl ?_); refine box_event ?hg (N := 7) ?hd (cs := #[.int .i64 a3]) (t := 3) ?hr ?_; (case hd => rfl); (case hg => rfl); (case hr => first | (go_simp; done) | (go_simp; rfl)); intro gw hg wc hbox hb; have GBW := Aside0.mk (by rw [hg]; exact HB.out.size : w.heap.size ≤ gw); have m0_ := Aside0.mk (below_step HB.out hb); have m1_ := Aside0.mk (blk_below BA.out hb); have m2_ := Aside0.mk (blk_below BB.out hb); clear HB BA BB; have HB := m0_; have BA := m1_; have BB := m2_; clear m0_ m1_ m2_; have BW := Aside0.mk hbox; clear hbox hg hb; clear cA cB; have cA := (blk_cell BA.out 0).trans (show _ = some (Value.slice A1 l1.length c1) from rfl); have cB := (blk_cell BB.out 0).trans (show _ = some (Value.slice A2 l2.length c2) from rfl)) | (go_at_call 26; go_loud ((with_reducible refine (edits_Check.calls k A0 c0 l0 _ _ _ _ (Kd.C_below HR0.out HB.out) HC0.out HE0.out).mono ?_); rintro e' w1 ⟨rfl, hb⟩); have m0_ := Aside0.mk (below_step HB.out hb); have m1_ := Aside0.mk (blk_below BA.out hb); have m2_ := Aside0.mk (blk_below BB.out hb); have m3_ := Aside0.mk (blk_below BW.out hb); clear HB BA BB BW; have HB := m0_; have BA := m1_; have BB := m2_; have BW := m3_; clear m0_ m1_ m2_ m3_; clear hb; clear cA cB; have cW := (blk_cell BW.out 0).trans (show _ = some (Value.int .i64 a3) from rfl)))
    go_ret2
    exact ⟨rfl, HB.out⟩
  rw [if_pos he0] at h
  subst he0
  by_cases h3 : a3 < 1
  case pos =>
    rw [if_pos h3] at h
    injection h with h
    injection h with h1 h2
    subst h1 h2
    have q1 := eq_true h3
    go_enter Tryd.func10, Tryd.ntmps10
    go_wp2_with (first | ((with_reducible refine gate_dst (N := 5) rfl ?_); refine box_event ?hg (N := 5) ?hd (cs := #[.slice A1 l1.length c1]) (t := 34) ?hr ?_; (case hd => rfl); (case hg => rfl); (case hr => first | (go_simp; done) | (go_simp; rfl)); intro gA hg wa hbox hb; have GBA := Aside0.mk (by rw [hg]; exact HB.out.size : w.heap.size ≤ gA); have m0_ := Aside0.mk (below_step HB.out hb); clear HB; have HB := m0_; clear m0_; have BA := Aside0.mk hbox; clear hbox hg hb) | ((with_reducible refine gate_dst (N := 6) rfl ?_); refine box_event ?hg (N := 6) ?hd (cs := #[.slice A2 l2.length c2]) (t := 34) ?hr ?_; (case hd => rfl); (case hg => rfl); (case hr => first | (go_simp; done) | (go_simp; rfl)); intro gB hg wb hbox hb; have GBB := Aside0.mk (by rw [hg]; exact HB.out.size : w.heap.size ≤ gB); have m0_ := Aside0.mk (below_step HB.out hb); have m1_ := Aside0.mk (blk_below BA.out hb); clear HB BA; have HB := m0_; have BA := m1_; clear m0_ m1_; have BB := Aside0.mk hbox; clear hbox hg hb; have cA := (blk_cell BA.out 0).trans (show _ = some (Value.slice A1 l1.length c1) from rfl); have cB := (blk_cell BB.out 0).trans (show _ = some (Value.slice A2 l2.length c2) from rfl)) | ((with_reducible refine gate_dst (N := 7) rfl ?_); refine box_event ?hg (N := 7) ?hd (cs := #[.int .i64 a3]) (t := 3) ?hr ?_; (case hd => rfl); (case hg => rfl); (case hr => first | (go_simp; done) | (go_simp; rfl)); intro gw hg wc hbox hb; have GBW := Aside0.mk (by rw [hg]; exact HB.out.size : w.heap.size ≤ gw); have m0_ := Aside0.mk (below_step HB.out hb); have m1_ := Aside0.mk (blk_below BA.out hb); have m2_ := Aside0.mk (blk_below BB.out hb); clear HB BA BB; have HB := m0_; have BA := m1_; have BB := m2_; clear m0_ m1_ m2_; have BW := Aside0.mk hbox; clear hbox hg hb; clear cA cB; have cA := (blk_cell BA.out 0).trans (show _ = some (Value.slice A1 l1.length c1) from rfl); have cB := (blk_cell BB.out 0).trans (show _ = some (Value.slice A2 l2.length c2) from rfl)) | (go_at_call 26; go_loud ((with_reducible refine (edits_Check.calls k A0 c0 l0 _ _ _ _ (Kd.C_below HR0.out HB.out) HC0.out HE0.out).mono ?_); rintro e' w1 ⟨rfl, hb⟩); have m0_ := Aside0.mk (below_step HB.out hb); have m1_ := Aside0.mk (blk_below BA.out hb); have m2_ := Aside0.mk (blk_below BB.out hb); have m3_ := Aside0.mk (blk_below BW.out hb); clear HB BA BB BW; have HB := m0_; have BA := m1_; have BB := m2_; have BW := m3_; clear m0_ m1_ m2_ m3_; clear hb; clear cA cB; have cW := (blk_cell BW.out 0).trans (show _ = some (Value.int .i64 a3) from rfl)))
    go_ret2
    exact ⟨rfl, HB.out⟩
  rw [if_neg h3] at h
  by_cases h4 : a3 > 200
  case pos =>
    rw [if_pos h4] at h
    injection h with h
    injection h with h1 h2
    subst h1 h2
    have q1 := eq_false h3
    have q2 := eq_true h4
    go_enter Tryd.func10, Tryd.ntmps10
    go_wp2_with (first | ((with_reducible refine gate_dst (N := 5) rfl ?_); refine box_event ?hg (N := 5) ?hd (cs := #[.slice A1 l1.length c1]) (t := 34) ?hr ?_; (case hd => rfl); (case hg => rfl); (case hr => first | (go_simp; done) | (go_simp; rfl)); intro gA hg wa hbox hb; have GBA := Aside0.mk (by rw [hg]; exact HB.out.size : w.heap.size ≤ gA); have m0_ := Aside0.mk (below_step HB.out hb); clear HB; have HB := m0_; clear m0_; have BA := Aside0.mk hbox; clear hbox hg hb) | ((with_reducible refine gate_dst (N := 6) rfl ?_); refine box_event ?hg (N := 6) ?hd (cs := #[.slice A2 l2.length c2]) (t := 34) ?hr ?_; (case hd => rfl); (case hg => rfl); (case hr => first | (go_simp; done) | (go_simp; rfl)); intro gB hg wb hbox hb; have GBB := Aside0.mk (by rw [hg]; exact HB.out.size : w.heap.size ≤ gB); have m0_ := Aside0.mk (below_step HB.out hb); have m1_ := Aside0.mk (blk_below BA.out hb); clear HB BA; have HB := m0_; have BA := m1_; clear m0_ m1_; have BB := Aside0.mk hbox; clear hbox hg hb; have cA := (blk_cell BA.out 0).trans (show _ = some (Value.slice A1 l1.length c1) from rfl); have cB := (blk_cell BB.out 0).trans (show _ = some (Value.slice A2 l2.length c2) from rfl)) | ((with_reducible refine gate_dst (N := 7) rfl ?_); refine box_event ?hg (N := 7) ?hd (cs := #[.int .i64 a3]) (t := 3) ?hr ?_; (case hd => rfl); (case hg => rfl); (case hr => first | (go_simp; done) | (go_simp; rfl)); intro gw hg wc hbox hb; have GBW := Aside0.mk (by rw [hg]; exact HB.out.size : w.heap.size ≤ gw); have m0_ := Aside0.mk (below_step HB.out hb); have m1_ := Aside0.mk (blk_below BA.out hb); have m2_ := Aside0.mk (blk_below BB.out hb); clear HB BA BB; have HB := m0_; have BA := m1_; have BB := m2_; clear m0_ m1_ m2_; have BW := Aside0.mk hbox; clear hbox hg hb; clear cA cB; have cA := (blk_cell BA.out 0).trans (show _ = some (Value.slice A1 l1.length c1) from rfl); have cB := (blk_cell BB.out 0).trans (show _ = some (Value.slice A2 l2.length c2) from rfl)) | (go_at_call 26; go_loud ((with_reducible refine (edits_Check.calls k A0 c0 l0 _ _ _ _ (Kd.C_below HR0.out HB.out) HC0.out HE0.out).mono ?_); rintro e' w1 ⟨rfl, hb⟩); have m0_ := Aside0.mk (below_step HB.out hb); have m1_ := Aside0.mk (blk_below BA.out hb); have m2_ := Aside0.mk (blk_below BB.out hb); have m3_ := Aside0.mk (blk_below BW.out hb); clear HB BA BB BW; have HB := m0_; have BA := m1_; have BB := m2_; have BW := m3_; clear m0_ m1_ m2_ m3_; clear hb; clear cA cB; have cW := (blk_cell BW.out 0).trans (show _ = some (Value.int .i64 a3) from rfl)))
    go_ret2
    exact ⟨rfl, HB.out⟩
  rw [if_neg h4] at h
  by_cases hg : l0.length ≤ 1000000000000 ∧ l1.length ≤ 1000000000000 ∧ l2.length ≤ 1000000000000
  case neg => rw [if_neg hg] at h; cases h
  rw [if_pos hg] at h
  obtain ⟨⟨i9, j9, acc9⟩, hrun, h⟩ := Option.bind_eq_some_iff.mp h
  dsimp only at hrun h
  by_cases h9 : 0 ≤ i9 ∧ i9 ≤ (l1.length : Int)
  case neg => rw [if_neg h9] at h; cases h
  rw [if_pos h9] at h
  obtain ⟨R9, hk9, h⟩ := Option.bind_eq_some_iff.mp h
  by_cases h8 : acc9.length + R9.length ≤ 100000000000000
  case neg => rw [if_neg h8] at h; cases h
  rw [if_pos h8] at h
  injection h with h
  injection h with h1 h2
  subst h1 h2
  have HRUN := Aside0.mk hrun
  have HK9 := Aside0.mk hk9
  have H9 := Aside0.mk h9
  have H8 := Aside0.mk h8
  have HG := Aside0.mk hg
  have q1 := eq_false h3
  have q2 := eq_false h4
  have hwd1 : 1 ≤ a3 := by omega
  have hwd2 : a3 ≤ 200 := by omega
  clear hrun hk9 h9 h8 hg
  go_enter Tryd.func10, Tryd.ntmps10
  go_upto_region 8 with (first | ((with_reducible refine gate_dst (N := 5) rfl ?_); refine box_event ?hg (N := 5) ?hd (cs := #[.slice A1 l1.length c1]) (t := 34) ?hr ?_; (case hd => rfl); (case hg => rfl); (case hr => first | (go_simp; done) | (go_simp; rfl)); intro gA hg wa hbox hb; have GBA := Aside0.mk (by rw [hg]; exact HB.out.size : w.heap.size ≤ gA); have m0_ := Aside0.mk (below_step HB.out hb); clear HB; have HB := m0_; clear m0_; have BA := Aside0.mk hbox; clear hbox hg hb) | ((with_reducible refine gate_dst (N := 6) rfl ?_); refine box_event ?hg (N := 6) ?hd (cs := #[.slice A2 l2.length c2]) (t := 34) ?hr ?_; (case hd => rfl); (case hg => rfl); (case hr => first | (go_simp; done) | (go_simp; rfl)); intro gB hg wb hbox hb; have GBB := Aside0.mk (by rw [hg]; exact HB.out.size : w.heap.size ≤ gB); have m0_ := Aside0.mk (below_step HB.out hb); have m1_ := Aside0.mk (blk_below BA.out hb); clear HB BA; have HB := m0_; have BA := m1_; clear m0_ m1_; have BB := Aside0.mk hbox; clear hbox hg hb; have cA := (blk_cell BA.out 0).trans (show _ = some (Value.slice A1 l1.length c1) from rfl); have cB := (blk_cell BB.out 0).trans (show _ = some (Value.slice A2 l2.length c2) from rfl)) | ((with_reducible refine gate_dst (N := 7) rfl ?_); refine box_event ?hg (N := 7) ?hd (cs := #[.int .i64 a3]) (t := 3) ?hr ?_; (case hd => rfl); (case hg => rfl); (case hr => first | (go_simp; done) | (go_simp; rfl)); intro gw hg wc hbox hb; have GBW := Aside0.mk (by rw [hg]; exact HB.out.size : w.heap.size ≤ gw); have m0_ := Aside0.mk (below_step HB.out hb); have m1_ := Aside0.mk (blk_below BA.out hb); have m2_ := Aside0.mk (blk_below BB.out hb); clear HB BA BB; have HB := m0_; have BA := m1_; have BB := m2_; clear m0_ m1_ m2_; have BW := Aside0.mk hbox; clear hbox hg hb; clear cA cB; have cA := (blk_cell BA.out 0).trans (show _ = some (Value.slice A1 l1.length c1) from rfl); have cB := (blk_cell BB.out 0).trans (show _ = some (Value.slice A2 l2.length c2) from rfl)) | (go_at_call 26; go_loud ((with_reducible refine (edits_Check.calls k A0 c0 l0 _ _ _ _ (Kd.C_below HR0.out HB.out) HC0.out HE0.out).mono ?_); rintro e' w1 ⟨rfl, hb⟩); have m0_ := Aside0.mk (below_step HB.out hb); have m1_ := Aside0.mk (blk_below BA.out hb); have m2_ := Aside0.mk (blk_below BB.out hb); have m3_ := Aside0.mk (blk_below BW.out hb); clear HB BA BB BW; have HB := m0_; have BA := m1_; have BB := m2_; have BW := m3_; clear m0_ m1_ m2_ m3_; clear hb; clear cA cB; have cW := (blk_cell BW.out 0).trans (show _ = some (Value.int .i64 a3) from rfl)) | ((with_reducible refine gate_dst (N := 11) rfl ?_); refine box_event ?hg (N := 11) ?hd (cs := #[.pointer none, .slice none 0 0]) (t := 56) ?hr ?_; (case hd => rfl); (case hg => rfl); (case hr => first | (go_simp; done) | (go_simp; rfl)); intro gb hg wd_ hbox hb; have GB := Aside0.mk (by rw [hg]; exact HB.out.size : w.heap.size ≤ gb); have m0_ := Aside0.mk (below_step HB.out hb); have m1_ := Aside0.mk (blk_below BA.out hb); have m2_ := Aside0.mk (blk_below BB.out hb); have m3_ := Aside0.mk (blk_below BW.out hb); clear HB BA BB BW; have HB := m0_; have BA := m1_; have BB := m2_; have BW := m3_; clear m0_ m1_ m2_ m3_; have HI : Aside0 (Sb.Bs gb w wd_ []) := ⟨⟨.inl ⟨GB.out, .slice none 0 0, hbox, Go.World.ownsRow_nil _ _ _ _, by simp [Value.ownBlock]⟩, HB.out⟩⟩; clear hbox hg hb) | ((with_reducible refine gate_dst (N := 12) rfl ?_); refine box_event ?hg (N := 12) ?hd (cs := #[Value.nilFunc]) (t := 44) ?hr ?_; (case hd => rfl); (case hg => rfl); (case hr => first | (go_simp; done) | (go_simp; rfl)); intro gs hg we hbox hb; have GBS := Aside0.mk (by rw [hg]; exact HB.out.size : w.heap.size ≤ gs); have m0_ := Aside0.mk (below_step HB.out hb); have m1_ := Aside0.mk (blk_below BA.out hb); have m2_ := Aside0.mk (blk_below BB.out hb); have m3_ := Aside0.mk (blk_below BW.out hb); have m4_ := Aside0.mk (HI.out.below hb); clear HB BA BB BW HI; have HB := m0_; have BA := m1_; have BB := m2_; have BW := m3_; have HI := m4_; clear m0_ m1_ m2_ m3_ m4_; have BS := Aside0.mk hbox; clear hbox hg hb; have cBS := (blk_cell BS.out 0).trans (show _ = some (Value.nilFunc) from rfl); have zBS := blk_frozen BS.out 0; have hstBS : (store ⟨gs, 0, none⟩ (Value.func (.func 27) #[] #[.pointer (some ⟨gw, 0, none⟩)])).run Tryd.prog we = .ok () (we.setCell ⟨gs, 0, none⟩ (Value.func (.func 27) #[] #[.pointer (some ⟨gw, 0, none⟩)])) := (by (rw [run_store _ _ _ _ _ rfl, cBS]; simp [zBS]))))
  obtain ⟨wf, hw⟩ : ∃ y, we.setCell ⟨gs, 0, none⟩ (Value.func (.func 27) #[] #[.pointer (some ⟨gw, 0, none⟩)]) = y := ⟨_, rfl⟩
  rw [hw]
  clear hstBS cBS zBS
  have m0_ := Aside0.mk (show Below w.heap.size w wf by rw [← hw]; exact HB.out.setCell GBS.out _)
  have m1_ := Aside0.mk (show wf.heap[gA]? = some (.cells #[.slice A1 l1.length c1] 34 (0, 0)) by rw [← hw]; exact blk_far BA.out (Vs.ne_ty BA.out BS.out (by decide)) _)
  have m2_ := Aside0.mk (show wf.heap[gB]? = some (.cells #[.slice A2 l2.length c2] 34 (0, 0)) by rw [← hw]; exact blk_far BB.out (Vs.ne_ty BB.out BS.out (by decide)) _)
  have m3_ := Aside0.mk (show wf.heap[gw]? = some (.cells #[.int .i64 a3] 3 (0, 0)) by rw [← hw]; exact blk_far BW.out (Vs.ne_ty BW.out BS.out (by decide)) _)
  have m4_ := Aside0.mk (show Sb.Bs gb w wf [] by rw [← hw]; exact HI.out.far BS.out (Ne.symm (Vs.nb_ HI.out BS.out (by decide))) (by decide) GBS.out 0 _)
  have m5_ := Aside0.mk (show wf.heap[gs]? = some (.cells #[(Value.func (.func 27) #[] #[.pointer (some ⟨gw, 0, none⟩)])] 44 (0, 0)) by rw [← hw]; exact blk_put BS.out 0 _ rfl)
  clear HB BA BB BW HI BS
  have HB := m0_
  have BA := m1_
  have BB := m2_
  have BW := m3_
  have HI := m4_
  have BS := m5_
  clear m0_ m1_ m2_ m3_ m4_ m5_
  clear hw
  go_upto_region 9 with ((with_reducible refine gate_dst (N := 13) rfl ?_); refine box_event ?hg (N := 13) ?hd (cs := #[Value.nilFunc]) (t := 69) ?hr ?_; (case hd => rfl); (case hg => rfl); (case hr => first | (go_simp; done) | (go_simp; rfl)); intro gr hg wg hbox hb; have GBR := Aside0.mk (by rw [hg]; exact HB.out.size : w.heap.size ≤ gr); have m0_ := Aside0.mk (below_step HB.out hb); have m1_ := Aside0.mk (blk_below BA.out hb); have m2_ := Aside0.mk (blk_below BB.out hb); have m3_ := Aside0.mk (blk_below BW.out hb); have m4_ := Aside0.mk (HI.out.below hb); have m5_ := Aside0.mk (blk_below BS.out hb); clear HB BA BB BW HI BS; have HB := m0_; have BA := m1_; have BB := m2_; have BW := m3_; have HI := m4_; have BS := m5_; clear m0_ m1_ m2_ m3_ m4_ m5_; have BR := Aside0.mk hbox; clear hbox hg hb; have cBR := (blk_cell BR.out 0).trans (show _ = some (Value.nilFunc) from rfl); have zBR := blk_frozen BR.out 0; have hstBR : (store ⟨gr, 0, none⟩ (Value.func (.func 30) #[] #[.pointer (some ⟨gs, 0, none⟩), .pointer (some ⟨gw, 0, none⟩), .pointer (some ⟨gb, 0, none⟩)])).run Tryd.prog wg = .ok () (wg.setCell ⟨gr, 0, none⟩ (Value.func (.func 30) #[] #[.pointer (some ⟨gs, 0, none⟩), .pointer (some ⟨gw, 0, none⟩), .pointer (some ⟨gb, 0, none⟩)])) := (by (rw [run_store _ _ _ _ _ rfl, cBR]; simp [zBR])))
  obtain ⟨wh, hw⟩ : ∃ y, wg.setCell ⟨gr, 0, none⟩ (Value.func (.func 30) #[] #[.pointer (some ⟨gs, 0, none⟩), .pointer (some ⟨gw, 0, none⟩), .pointer (some ⟨gb, 0, none⟩)]) = y := ⟨_, rfl⟩
  rw [hw]
  clear hstBR cBR zBR
  have m0_ := Aside0.mk (show Below w.heap.size w wh by rw [← hw]; exact HB.out.setCell GBR.out _)
  have m1_ := Aside0.mk (show wh.heap[gA]? = some (.cells #[.slice A1 l1.length c1] 34 (0, 0)) by rw [← hw]; exact blk_far BA.out (Vs.ne_ty BA.out BR.out (by decide)) _)
  have m2_ := Aside0.mk (show wh.heap[gB]? = some (.cells #[.slice A2 l2.length c2] 34 (0, 0)) by rw [← hw]; exact blk_far BB.out (Vs.ne_ty BB.out BR.out (by decide)) _)
  have m3_ := Aside0.mk (show wh.heap[gw]? = some (.cells #[.int .i64 a3] 3 (0, 0)) by rw [← hw]; exact blk_far BW.out (Vs.ne_ty BW.out BR.out (by decide)) _)
  have m4_ := Aside0.mk (show Sb.Bs gb w wh [] by rw [← hw]; exact HI.out.far BR.out (Ne.symm (Vs.nb_ HI.out BR.out (by decide))) (by decide) GBR.out 0 _)
  have m5_ := Aside0.mk (show wh.heap[gs]? = some (.cells #[(Value.func (.func 27) #[] #[.pointer (some ⟨gw, 0, none⟩)])] 44 (0, 0)) by rw [← hw]; exact blk_far BS.out (Vs.ne_ty BS.out BR.out (by decide)) _)
  have m6_ := Aside0.mk (show wh.heap[gr]? = some (.cells #[(Value.func (.func 30) #[] #[.pointer (some ⟨gs, 0, none⟩), .pointer (some ⟨gw, 0, none⟩), .pointer (some ⟨gb, 0, none⟩)])] 69 (0, 0)) by rw [← hw]; exact blk_put BR.out 0 _ rfl)
  clear HB BA BB BW HI BS BR
  have HB := m0_
  have BA := m1_
  have BB := m2_
  have BW := m3_
  have HI := m4_
  have BS := m5_
  have BR := m6_
  clear m0_ m1_ m2_ m3_ m4_ m5_ m6_
  clear hw
  go_wp2_with (first | ((with_reducible refine gate_dst (N := 14) rfl ?_); refine box_event ?hg (N := 14) ?hd (cs := #[.int .i64 0]) (t := 3) ?hr ?_; (case hd => rfl); (case hg => rfl); (case hr => first | (go_simp; done) | (go_simp; rfl)); intro gi hg wi hbox hb; have GBI := Aside0.mk (by rw [hg]; exact HB.out.size : w.heap.size ≤ gi); have LBIBW := Aside0.mk (show gw ≠ gi by rw [hg]; exact Nat.ne_of_lt (blk_lt BW.out)); have m0_ := Aside0.mk (below_step HB.out hb); have m1_ := Aside0.mk (blk_below BA.out hb); have m2_ := Aside0.mk (blk_below BB.out hb); have m3_ := Aside0.mk (blk_below BW.out hb); have m4_ := Aside0.mk (HI.out.below hb); have m5_ := Aside0.mk (blk_below BS.out hb); have m6_ := Aside0.mk (blk_below BR.out hb); clear HB BA BB BW HI BS BR; have HB := m0_; have BA := m1_; have BB := m2_; have BW := m3_; have HI := m4_; have BS := m5_; have BR := m6_; clear m0_ m1_ m2_ m3_ m4_ m5_ m6_; have BI := Aside0.mk hbox; clear hbox hg hb; have cBI := (blk_cell BI.out 0).trans (show _ = some (Value.int .i64 0) from rfl); have zBI := blk_frozen BI.out 0) | ((with_reducible refine gate_dst (N := 15) rfl ?_); refine box_event ?hg (N := 15) ?hd (cs := #[.int .i64 0]) (t := 3) ?hr ?_; (case hd => rfl); (case hg => rfl); (case hr => first | (go_simp; done) | (go_simp; rfl)); intro gj hg wj hbox hb; have GBJ := Aside0.mk (by rw [hg]; exact HB.out.size : w.heap.size ≤ gj); have LBJBW := Aside0.mk (show gw ≠ gj by rw [hg]; exact Nat.ne_of_lt (blk_lt BW.out)); have LBJBI := Aside0.mk (show gi ≠ gj by rw [hg]; exact Nat.ne_of_lt (blk_lt BI.out)); have m0_ := Aside0.mk (below_step HB.out hb); have m1_ := Aside0.mk (blk_below BA.out hb); have m2_ := Aside0.mk (blk_below BB.out hb); have m3_ := Aside0.mk (blk_below BW.out hb); have m4_ := Aside0.mk (HI.out.below hb); have m5_ := Aside0.mk (blk_below BS.out hb); have m6_ := Aside0.mk (blk_below BR.out hb); have m7_ := Aside0.mk (blk_below BI.out hb); clear HB BA BB BW HI BS BR BI; have HB := m0_; have BA := m1_; have BB := m2_; have BW := m3_; have HI := m4_; have BS := m5_; have BR := m6_; have BI := m7_; clear m0_ m1_ m2_ m3_ m4_ m5_ m6_ m7_; have BJ := Aside0.mk hbox; clear hbox hg hb; clear cBI zBI; have cBI := (blk_cell BI.out 0).trans (show _ = some (Value.int .i64 0) from rfl); have zBI := blk_frozen BI.out 0; have cBJ := (blk_cell BJ.out 0).trans (show _ = some (Value.int .i64 0) from rfl); have zBJ := blk_frozen BJ.out 0) | ((with_reducible refine gate_store (t := 3) (p := 14) rfl ?_); go_loud (refine store_event (t := 3) (p := 14) (v := ?vo_s14) (w1 := wj.setCell ⟨gi, 0, none⟩ (.int .i64 0)) ?hg ?ho ?hn ?hr ?_; (case ho => rfl); (case hg => rfl); (case hn => rfl); (case hr => first | (go_simp; done) | (go_simp; rfl)); intro wk hw; have m0_ := Aside0.mk (show Below w.heap.size w wk by rw [hw]; exact HB.out.setCell GBI.out _); have m1_ := Aside0.mk (show wk.heap[gA]? = some (.cells #[.slice A1 l1.length c1] 34 (0, 0)) by rw [hw]; exact blk_far BA.out (Vs.ne_ty BA.out BI.out (by decide)) _); have m2_ := Aside0.mk (show wk.heap[gB]? = some (.cells #[.slice A2 l2.length c2] 34 (0, 0)) by rw [hw]; exact blk_far BB.out (Vs.ne_ty BB.out BI.out (by decide)) _); have m3_ := Aside0.mk (show wk.heap[gw]? = some (.cells #[.int .i64 a3] 3 (0, 0)) by rw [hw]; exact blk_far BW.out LBIBW.out _); have m4_ := Aside0.mk (show Sb.Bs gb w wk [] by rw [hw]; exact HI.out.far BI.out (Ne.symm (Vs.nb_ HI.out BI.out (by decide))) (by decide) GBI.out 0 _); have m5_ := Aside0.mk (show wk.heap[gs]? = some (.cells #[(Value.func (.func 27) #[] #[.pointer (some ⟨gw, 0, none⟩)])] 44 (0, 0)) by rw [hw]; exact blk_far BS.out (Vs.ne_ty BS.out BI.out (by decide)) _); have m6_ := Aside0.mk (show wk.heap[gr]? = some (.cells #[(Value.func (.func 30) #[] #[.pointer (some ⟨gs, 0, none⟩), .pointer (some ⟨gw, 0, none⟩), .pointer (some ⟨gb, 0, none⟩)])] 69 (0, 0)) by rw [hw]; exact blk_far BR.out (Vs.ne_ty BR.out BI.out (by decide)) _); have m7_ := Aside0.mk (show wk.heap[gi]? = some (.cells #[.int .i64 0] 3 (0, 0)) by rw [hw]; exact blk_put BI.out 0 _ rfl); have m8_ := Aside0.mk (show wk.heap[gj]? = some (.cells #[.int .i64 0] 3 (0, 0)) by rw [hw]; exact blk_far BJ.out (Ne.symm LBJBI.out) _); clear HB BA BB BW HI BS BR BI BJ; have HB := m0_; have BA := m1_; have BB := m2_; have BW := m3_; have HI := m4_; have BS := m5_; have BR := m6_; have BI := m7_; have BJ := m8_; clear m0_ m1_ m2_ m3_ m4_ m5_ m6_ m7_ m8_; clear hw; clear cBI zBI cBJ zBJ; have cBJ := (blk_cell BJ.out 0).trans (show _ = some (Value.int .i64 0) from rfl); have zBJ := blk_frozen BJ.out 0)) | ((with_reducible refine gate_store (t := 3) (p := 15) rfl ?_); go_loud (refine store_event (t := 3) (p := 15) (v := ?vo_s15) (w1 := wk.setCell ⟨gj, 0, none⟩ (.int .i64 0)) ?hg ?ho ?hn ?hr ?_; (case ho => rfl); (case hg => rfl); (case hn => rfl); (case hr => first | (go_simp; done) | (go_simp; rfl)); intro wl hw; have m0_ := Aside0.mk (show Below w.heap.size w wl by rw [hw]; exact HB.out.setCell GBJ.out _); have m1_ := Aside0.mk (show wl.heap[gA]? = some (.cells #[.slice A1 l1.length c1] 34 (0, 0)) by rw [hw]; exact blk_far BA.out (Vs.ne_ty BA.out BJ.out (by decide)) _); have m2_ := Aside0.mk (show wl.heap[gB]? = some (.cells #[.slice A2 l2.length c2] 34 (0, 0)) by rw [hw]; exact blk_far BB.out (Vs.ne_ty BB.out BJ.out (by decide)) _); have m3_ := Aside0.mk (show wl.heap[gw]? = some (.cells #[.int .i64 a3] 3 (0, 0)) by rw [hw]; exact blk_far BW.out LBJBW.out _); have m4_ := Aside0.mk (show Sb.Bs gb w wl [] by rw [hw]; exact HI.out.far BJ.out (Ne.symm (Vs.nb_ HI.out BJ.out (by decide))) (by decide) GBJ.out 0 _); have m5_ := Aside0.mk (show wl.heap[gs]? = some (.cells #[(Value.func (.func 27) #[] #[.pointer (some ⟨gw, 0, none⟩)])] 44 (0, 0)) by rw [hw]; exact blk_far BS.out (Vs.ne_ty BS.out BJ.out (by decide)) _); have m6_ := Aside0.mk (show wl.heap[gr]? = some (.cells #[(Value.func (.func 30) #[] #[.pointer (some ⟨gs, 0, none⟩), .pointer (some ⟨gw, 0, none⟩), .pointer (some ⟨gb, 0, none⟩)])] 69 (0, 0)) by rw [hw]; exact blk_far BR.out (Vs.ne_ty BR.out BJ.out (by decide)) _); have m7_ := Aside0.mk (show wl.heap[gi]? = some (.cells #[.int .i64 0] 3 (0, 0)) by rw [hw]; exact blk_far BI.out LBJBI.out _); have m8_ := Aside0.mk (show wl.heap[gj]? = some (.cells #[.int .i64 0] 3 (0, 0)) by rw [hw]; exact blk_put BJ.out 0 _ rfl); clear HB BA BB BW HI BS BR BI BJ; have HB := m0_; have BA := m1_; have BB := m2_; have BW := m3_; have HI := m4_; have BS := m5_; have BR := m6_; have BI := m7_; have BJ := m8_; clear m0_ m1_ m2_ m3_ m4_ m5_ m6_ m7_ m8_; clear hw; clear cBJ zBJ)))
  have HE := Aside0.mk (show Vs.Ev gi gj gr gA gB gs gw gb A1 l1.length c1 A2 l2.length c2 a3 w 0 0 [] wl from ⟨HI.out, BI.out, BJ.out, BR.out, BA.out, BB.out, BS.out, BW.out, LBJBI.out, LBIBW.out, LBJBW.out, GBI.out, GBJ.out⟩)
  clear HB BA BB BW HI BS BR BI BJ cW
  go_loopg [40] l0.length (fun q v40 w' => ∃ (z i j : Int) (acc : List UInt8), v40 = .int .i64 z ∧ 0 ≤ z ∧ z ≤ 1000000000000 ∧ Aside0 (z + (q : Int) = l0.length) ∧ Aside0 (Vs.run a3 l1 l2 (l0.drop z.toNat) i j acc = some (i9, j9, acc9)) ∧ Aside0 (Vs.Ev gi gj gr gA gB gs gw gb A1 l1.length c1 A2 l2.length c2 a3 w i j acc w'))
  case atStart => exact ⟨0, 0, 0, [], rfl, by omega, by omega, ⟨by omega⟩, ⟨by rw [show (0 : Int).toNat = 0 from rfl, List.drop_zero]; exact HRUN.out⟩, HE⟩
  case round =>
    clear HRUN HE
    obtain ⟨z, i, j, acc, rfl, hz1, hz2, HZ, HRUN, HE⟩ := hrel
    cases gk with
    | zero =>
      have hzl : z = (l0.length : Int) := by have := HZ.out; omega
      subst hzl
      have hp : ((l0.length : Int) < (l0.length : Int)) = False := eq_false (Int.lt_irrefl _)
      have h := HRUN.out
      rw [Int.toNat_natCast, List.drop_length, Vs.run] at h
      injection h with h
      injection h with h1 h2
      injection h2 with h2 h3_
      subst h1 h2 h3_
      have cA := (blk_cell HE.out.ba 0).trans (show _ = some (Value.slice A1 l1.length c1) from rfl)
      go_wp2_with (first | (go_at_call 33; (with_reducible refine (Vs.kept_calls gi gj gr gA gB gs gw gb A1 c1 l1 A2 c2 l2 a3 w acc R9 i j (l1.length : Int) ((l1.length : Int) - i).toNat _ HE.out HR1.out HR2.out (by have := H9.out; omega) HK9.out H8.out hwd1 hwd2 HG.out.2.1 HG.out.2.2).mono ?_); rintro e w8 ⟨rfl, hx, hf⟩; have HX := Aside0.mk hx.x; clear hx hf) | (go_at_call 21; (with_reducible refine (Tryd.Builder_String_any w.heap.size gb (acc ++ R9) _ HX.out.i HX.out.b_.size).mono ?_); rintro e w9 ⟨rfl, hb⟩; have HEND := Aside0.mk (HX.out.b_.trans hb); clear hb))
      go_ret2
      exact ⟨rfl, HEND.out⟩
    | succ q1 =>
      have hzl : decide (z < (l0.length : Int)) = true := decide_eq_true (by have := HZ.out; omega)
      have hz3 := of_decide_eq_true hzl
      obtain ⟨ad1, ea1, y0, y1, y2, y3⟩ := at_T72 HR0.out z hz1 hz3
      cases ea1
      replace y0 := (HE.out.x.b_.cell (World.block_lt_of_cell? w _ y0)).trans y0
      replace y1 := (HE.out.x.b_.cell (World.block_lt_of_cell? w _ y1)).trans y1
      replace y2 := (HE.out.x.b_.cell (World.block_lt_of_cell? w _ y2)).trans y2
      replace y3 := (HE.out.x.b_.cell (World.block_lt_of_cell? w _ y3)).trans y3
      have p1 := eq_true hz1
      have p2 := eq_true hz3
      have hw : wrap64 (z + 1) = z + 1 := by unfold wrap64; omega
      have HW := Aside0.mk hw
      have hd : l0.drop z.toNat = rd_T72 l0 z :: l0.drop (z + 1).toNat := by
        rw [show (z + 1).toNat = z.toNat + 1 by omega, List.drop_eq_getElem_cons (by omega)]
        simp [rd_T72, List.getD_eq_getElem?_getD, show z.toNat < l0.length by omega]
      obtain ⟨ch, hch⟩ : ∃ ch, rd_T72 l0 z = ch := ⟨_, rfl⟩
      rw [hch] at y0 y1 y2 y3 hd
      have hgo := HRUN.out
      rw [hd, Vs.run] at hgo
      by_cases hk : Vs.okc (l1.length : Int) (l2.length : Int) i j ch
      case neg => rw [if_neg hk] at hgo; cases hgo
      rw [if_pos hk] at hgo
      obtain ⟨r1, h1, hgo⟩ := Option.bind_eq_some_iff.mp hgo
      obtain ⟨r2, h2, hgo⟩ := Option.bind_eq_some_iff.mp hgo
      by_cases hsz : acc.length + r1.length + r2.length ≤ 100000000000000
      case neg => rw [if_neg hsz] at hgo; cases hgo
      rw [if_pos hsz] at hgo
      have HGO2 := Aside0.mk hgo
      have HSZ := Aside0.mk hsz
      obtain ⟨k0, k1, k2, k3, k4, k5, k6, k7⟩ := hk
      have HK := Aside0.mk (show 0 ≤ i ∧ 0 ≤ j ∧ i ≤ ch.f0 ∧ 0 ≤ ch.f1 ∧ ch.f0 + ch.f1 ≤ (l1.length : Int) ∧ 0 ≤ ch.f2 ∧ 0 ≤ ch.f3 ∧ ch.f2 + ch.f3 ≤ (l2.length : Int) from ⟨k0, k1, k2, k3, k4, k5, k6, k7⟩)
      obtain ⟨m, hm⟩ : ∃ m : Nat, mx ch.f1 ch.f3 = (m : Int) := ⟨(mx ch.f1 ch.f3).toNat, by unfold mx; split <;> omega⟩
      have hm2 : (if ch.f1 < ch.f3 then ch.f3 else ch.f1) = (m : Int) := hm
      have hm3 : (m : Int) ≤ 1000000000000 := by have := HG.out; rw [← hm2]; split <;> omega
      obtain ⟨n, hn⟩ : ∃ n : Nat, ch.f0 - i = (n : Int) := ⟨(ch.f0 - i).toNat, by omega⟩
      rw [hm, Int.toNat_natCast] at h2
      rw [hn, Int.toNat_natCast] at h1
      have H1 := Aside0.mk h1
      have H2 := Aside0.mk h2
      have HN := Aside0.mk hn
      have HM3 := Aside0.mk hm3
      have hwa : wrap64 (ch.f0 + ch.f1) = ch.f0 + ch.f1 := by have := HG.out; unfold wrap64; omega
      have hwb : wrap64 (ch.f2 + ch.f3) = ch.f2 + ch.f3 := by have := HG.out; unfold wrap64; omega
      have HWA := Aside0.mk hwa
      have HWB := Aside0.mk hwb
      clear hd hw hz3 hch HRUN hgo hsz k0 k1 k2 k3 k4 k5 k6 k7 h1 h2 hm hn hm3 hwa hwb
      go_upto_region 14 with (first | ((with_reducible refine gate_dst (N := 18) rfl ?_); refine box_event ?hg (N := 18) ?hd (cs := #[.int .i64 0, .int .i64 0, .int .i64 0, .int .i64 0]) (t := 72) ?hr ?_; (case hd => rfl); (case hg => rfl); (case hr => first | (go_simp; done) | (go_simp; rfl)); intro gc hg w10 hbox hb; have GC := Aside0.mk (by rw [hg]; exact HE.out.x.b_.size : w.heap.size ≤ gc); have n1_ := Aside0.mk (HE.out.below hb); replace y0 := (hb.cell (World.block_lt_of_cell? _ _ y0)).trans y0; replace y1 := (hb.cell (World.block_lt_of_cell? _ _ y1)).trans y1; replace y2 := (hb.cell (World.block_lt_of_cell? _ _ y2)).trans y2; replace y3 := (hb.cell (World.block_lt_of_cell? _ _ y3)).trans y3; clear HE; have HE := n1_; clear n1_; have BC := Aside0.mk hbox; clear hbox hg hb; have o0 := (blk_cell BC.out 0).trans (show _ = some (Value.int .i64 0) from rfl); have o1 := (blk_cell BC.out 1).trans (show _ = some (Value.int .i64 0) from rfl); have o2 := (blk_cell BC.out 2).trans (show _ = some (Value.int .i64 0) from rfl); have o3 := (blk_cell BC.out 3).trans (show _ = some (Value.int .i64 0) from rfl); have k0 := blk_frozen BC.out 0; have k1 := blk_frozen BC.out 1; have k2 := blk_frozen BC.out 2; have k3 := blk_frozen BC.out 3) | ((with_reducible refine gate_store (t := 72) (p := 18) rfl ?_); go_loud (refine store_event (t := 72) (p := 18) (v := ?vo_sc) (w1 := (((w10.setCell ⟨gc, 0, none⟩ (.int .i64 ch.f0)).setCell ⟨gc, 1, none⟩ (.int .i64 ch.f1)).setCell ⟨gc, 2, none⟩ (.int .i64 ch.f2)).setCell ⟨gc, 3, none⟩ (.int .i64 ch.f3)) ?hg ?ho ?hn ?hr ?_; (case ho => rfl); (case hg => rfl); (case hn => rfl); (case hr => first | (go_simp; done) | (go_simp; rfl)); intro w11 hw; have n0_ : Aside0 (w11.heap[gc]? = some (.cells #[.int .i64 ch.f0, .int .i64 ch.f1, .int .i64 ch.f2, .int .i64 ch.f3] 72 (0, 0))) := ⟨by rw [hw]; exact blk_put (blk_put (blk_put (blk_put (BC.out) 0 _ rfl) 1 _ rfl) 2 _ rfl) 3 _ rfl⟩; have n1_ : Aside0 (Vs.Ev gi gj gr gA gB gs gw gb A1 l1.length c1 A2 l2.length c2 a3 w i j acc w11) := ⟨by rw [hw]; exact ((((HE.out.put (BC.out) (by decide) (by decide) (by decide) (by decide) (by decide) (by decide) GC.out 0 _).put (blk_put (BC.out) 0 _ rfl) (by decide) (by decide) (by decide) (by decide) (by decide) (by decide) GC.out 1 _).put (blk_put (blk_put (BC.out) 0 _ rfl) 1 _ rfl) (by decide) (by decide) (by decide) (by decide) (by decide) (by decide) GC.out 2 _).put (blk_put (blk_put (blk_put (BC.out) 0 _ rfl) 1 _ rfl) 2 _ rfl) (by decide) (by decide) (by decide) (by decide) (by decide) (by decide) GC.out 3 _)⟩; clear HE BC hw y0 y1 y2 y3 o0 o1 o2 o3 k0 k1 k2 k3; have BC := n0_; have HE := n1_; clear n0_ n1_)))
      have c_0 := (blk_cell BC.out 0).trans (show _ = some (Value.int .i64 ch.f0) from rfl)
      have c_1 := (blk_cell BC.out 1).trans (show _ = some (Value.int .i64 ch.f1) from rfl)
      have c_2 := (blk_cell BC.out 2).trans (show _ = some (Value.int .i64 ch.f2) from rfl)
      have c_3 := (blk_cell BC.out 3).trans (show _ = some (Value.int .i64 ch.f3) from rfl)
      go_upto_region 15 with (go_at_call 33; (with_reducible refine (Vs.kept_calls gi gj gr gA gB gs gw gb A1 c1 l1 A2 c2 l2 a3 w acc r1 i j ch.f0 n _ HE.out HR1.out HR2.out (by have := HN.out; omega) H1.out (by have := HSZ.out; omega) hwd1 hwd2 HG.out.2.1 HG.out.2.2).mono ?_); rintro e w12 ⟨rfl, hx, hf⟩; have n1_ := Aside0.mk hx; have n2_ := Aside0.mk (hf gc _ _ (Vs.nb_ HE.out.x BC.out (by decide)) (Vs.ne_ty BC.out HE.out.bi (by decide)) (Vs.ne_ty BC.out HE.out.bj (by decide)) (by decide) BC.out); clear HE BC hx hf c_0 c_1 c_2 c_3; have HE := n1_; have BC := n2_; clear n1_ n2_)
      have c_0 := (blk_cell BC.out 0).trans (show _ = some (Value.int .i64 ch.f0) from rfl)
      have c_1 := (blk_cell BC.out 1).trans (show _ = some (Value.int .i64 ch.f1) from rfl)
      have c_2 := (blk_cell BC.out 2).trans (show _ = some (Value.int .i64 ch.f2) from rfl)
      have c_3 := (blk_cell BC.out 3).trans (show _ = some (Value.int .i64 ch.f3) from rfl)
      go_wp2
      clear c_0 c_1 c_2 c_3
      go_loopg [53] m (fun q v53 w' => ∃ (kk : Int) (ac R : List UInt8), v53 = .int .i64 kk ∧ 0 ≤ kk ∧ kk ≤ 1000000000000 ∧ Aside0 (kk + (q : Int) = m ∧ ac ++ R = acc ++ r1 ++ r2) ∧ Aside0 (Vs.chg a3 l1 l2 ch q kk = some R) ∧ Aside0 (Vs.Ev gi gj gr gA gB gs gw gb A1 l1.length c1 A2 l2.length c2 a3 w (i + n) (j + n) ac w') ∧ Aside0 (w'.heap[gc]? = some (.cells #[.int .i64 ch.f0, .int .i64 ch.f1, .int .i64 ch.f2, .int .i64 ch.f3] 72 (0, 0))))
      case atStart => exact ⟨0, acc ++ r1, r2, rfl, by omega, by omega, ⟨by omega, rfl⟩, H2, HE, BC⟩
      case round =>
        clear HE BC H2
        obtain ⟨kk, ac, R, rfl, hk1, hk2, HKZ, HCH, HE, BC⟩ := hrel
        have c_0 := (blk_cell BC.out 0).trans (show _ = some (Value.int .i64 ch.f0) from rfl)
        have c_1 := (blk_cell BC.out 1).trans (show _ = some (Value.int .i64 ch.f1) from rfl)
        have c_2 := (blk_cell BC.out 2).trans (show _ = some (Value.int .i64 ch.f2) from rfl)
        have c_3 := (blk_cell BC.out 3).trans (show _ = some (Value.int .i64 ch.f3) from rfl)
        cases gk with
        | zero =>
          have hp : (kk < (m : Int)) = False := eq_false (by have := HKZ.out.1; omega)
          have h := HCH.out
          rw [Vs.chg] at h
          obtain rfl := Option.some.inj h
          have h2 := HKZ.out.2
          rw [List.append_nil] at h2
          subst h2
          clear h
          go_upto_region 24 with (fail)
          have n1_ := Aside0.mk HE.out.drew
          have n2_ : Aside0 (wr.drew.heap[gc]? = some (.cells #[.int .i64 ch.f0, .int .i64 ch.f1, .int .i64 ch.f2, .int .i64 ch.f3] 72 (0, 0))) := ⟨BC.out⟩
          clear HE BC c_0 c_1 c_2 c_3
          have HE := n1_
          have BC := n2_
          clear n1_ n2_
          refine start_ (n := 12) (S := fun w' => w'.cell? ⟨gc, 0, none⟩ = some (.int .i64 ch.f0) ∧ w'.cell? ⟨gc, 1, none⟩ = some (.int .i64 ch.f1) ∧ w'.cell? ⟨gc, 2, none⟩ = some (.int .i64 ch.f2) ∧ w'.cell? ⟨gc, 3, none⟩ = some (.int .i64 ch.f3)) (ds := [11]) #[false, false, false, false, false, false, false, false, false, false, false, false] (by kernel_rfl) rfl rfl ⟨(blk_cell BC.out 0).trans rfl, (blk_cell BC.out 1).trans rfl, (blk_cell BC.out 2).trans rfl, (blk_cell BC.out 3).trans rfl⟩ (fun hHeld => ?_)
          refine with_tabW Vs.tabS24 Vs.bitsS24 (fun HT_ HW_ => ?_)
          generalize wr.drew = w2 at HE BC hHeld ⊢
          have ha4 : IntKind.i64.wrap (ch.f0 + ch.f1) = ch.f0 + ch.f1 := (i64_w _).trans HWA.out
          have hb4 : IntKind.i64.wrap (ch.f2 + ch.f3) = ch.f2 + ch.f3 := (i64_w _).trans HWB.out
          refine pure_ (i := 0) (N := some 101) (v := ?_) (a' := ?_) #[true, false, false, false, false, false, false, false, false, false, false, false] rfl rfl (any_of HT_.out (by kernel_rfl)) (fun _ _ _ h => h) (Or.inl ⟨by rfl, ?_⟩) ?_ ?_
          rotate_left
          · intro w'
            go_simp
            with_reducible rfl
          rotate_left
          · simp only [Act.put, List.setIfInBounds_toArray, List.set_cons_zero, List.set_cons_succ, i64_w, i32_w]
            rfl
          refine take_ (i := 1) (N := some 102) (v := ?_) (a' := ?_) #[true, true, false, false, false, false, false, false, false, false, false, false] rfl rfl (take_ofW HT_.out HW_.out (by kernel_rfl)) (fun _ _ _ h => h) (Or.inl ⟨by rfl, ?_⟩) hHeld ?_ ?_
          rotate_left
          · rintro w' ⟨s0_, s1_, s2_, s3_⟩
            go_simp
            with_reducible rfl
          rotate_left
          · simp only [Act.put, List.setIfInBounds_toArray, List.set_cons_zero, List.set_cons_succ, i64_w, i32_w]
            rfl
          refine pure_ (i := 2) (N := some 103) (v := ?_) (a' := ?_) #[true, true, true, false, false, false, false, false, false, false, false, false] rfl rfl (any_of HT_.out (by kernel_rfl)) (fun _ _ _ h => h) (Or.inl ⟨by rfl, ?_⟩) ?_ ?_
          rotate_left
          · intro w'
            go_simp
            with_reducible rfl
          rotate_left
          · simp only [Act.put, List.setIfInBounds_toArray, List.set_cons_zero, List.set_cons_succ, i64_w, i32_w]
            rfl
          refine take_ (i := 3) (N := some 104) (v := ?_) (a' := ?_) #[true, true, true, true, false, false, false, false, false, false, false, false] rfl rfl (take_ofW HT_.out HW_.out (by kernel_rfl)) (fun _ _ _ h => h) (Or.inl ⟨by rfl, ?_⟩) hHeld ?_ ?_
          rotate_left
          · rintro w' ⟨s0_, s1_, s2_, s3_⟩
            go_simp
            with_reducible rfl
          rotate_left
          · simp only [Act.put, List.setIfInBounds_toArray, List.set_cons_zero, List.set_cons_succ, i64_w, i32_w]
            rfl
          refine pure_ (i := 4) (N := some 105) (v := ?_) (a' := ?_) #[true, true, true, true, true, false, false, false, false, false, false, false] rfl rfl (any_of HT_.out (by kernel_rfl)) (fun _ _ _ h => h) (Or.inl ⟨by rfl, ?_⟩) ?_ ?_
          rotate_left
          · intro w'
            go_simp
            with_reducible rfl
          rotate_left
          · simp only [Act.put, List.setIfInBounds_toArray, List.set_cons_zero, List.set_cons_succ, i64_w, i32_w]
            rfl
          refine pure_ (i := 5) (N := some 106) (v := ?_) (a' := ?_) #[true, true, true, true, true, true, false, false, false, false, false, false] rfl rfl (any_of HT_.out (by kernel_rfl)) (fun _ _ _ h => h) (Or.inl ⟨by rfl, ?_⟩) ?_ ?_
          rotate_left
          · intro w'
            go_simp
            with_reducible rfl
          rotate_left
          · simp only [Act.put, List.setIfInBounds_toArray, List.set_cons_zero, List.set_cons_succ, i64_w, i32_w]
            rfl
          refine take_ (i := 6) (N := some 107) (v := ?_) (a' := ?_) #[true, true, true, true, true, true, true, false, false, false, false, false] rfl rfl (take_ofW HT_.out HW_.out (by kernel_rfl)) (fun _ _ _ h => h) (Or.inl ⟨by rfl, ?_⟩) hHeld ?_ ?_
          rotate_left
          · rintro w' ⟨s0_, s1_, s2_, s3_⟩
            go_simp
            with_reducible rfl
          rotate_left
          · simp only [Act.put, List.setIfInBounds_toArray, List.set_cons_zero, List.set_cons_succ, i64_w, i32_w]
            rfl
          refine pure_ (i := 7) (N := some 108) (v := ?_) (a' := ?_) #[true, true, true, true, true, true, true, true, false, false, false, false] rfl rfl (any_of HT_.out (by kernel_rfl)) (fun _ _ _ h => h) (Or.inl ⟨by rfl, ?_⟩) ?_ ?_
          rotate_left
          · intro w'
            go_simp
            with_reducible rfl
          rotate_left
          · simp only [Act.put, List.setIfInBounds_toArray, List.set_cons_zero, List.set_cons_succ, i64_w, i32_w]
            rfl
          refine take_ (i := 8) (N := some 109) (v := ?_) (a' := ?_) #[true, true, true, true, true, true, true, true, true, false, false, false] rfl rfl (take_ofW HT_.out HW_.out (by kernel_rfl)) (fun _ _ _ h => h) (Or.inl ⟨by rfl, ?_⟩) hHeld ?_ ?_
          rotate_left
          · rintro w' ⟨s0_, s1_, s2_, s3_⟩
            go_simp
            with_reducible rfl
          rotate_left
          · simp only [Act.put, List.setIfInBounds_toArray, List.set_cons_zero, List.set_cons_succ, i64_w, i32_w]
            rfl
          refine pure_ (i := 9) (N := some 110) (v := ?_) (a' := ?_) #[true, true, true, true, true, true, true, true, true, true, false, false] rfl rfl (any_of HT_.out (by kernel_rfl)) (fun _ _ _ h => h) (Or.inl ⟨by rfl, ?_⟩) ?_ ?_
          rotate_left
          · intro w'
            go_simp
            with_reducible rfl
          rotate_left
          · simp only [Act.put, List.setIfInBounds_toArray, List.set_cons_zero, List.set_cons_succ, i64_w, i32_w]
            rfl
          have ci := (blk_cell HE.out.bi 0).trans (show _ = some (Value.int .i64 (i + n)) from rfl)
          have zi := blk_frozen HE.out.bi 0
          refine one_ (i := 10) (N := none) #[true, true, true, true, true, true, true, true, true, true, true, false] rfl rfl (one_of HT_.out (by kernel_rfl)) (by decide) (fun K hK => ?_)
          refine skip_ (w1 := w2.setCell ⟨gi, 0, none⟩ (.int .i64 (ch.f0 + ch.f1))) (by rfl) rfl (by go_simp) ?_
          have n1_ := Aside0.mk (HE.out.seti (ch.f0 + ch.f1))
          have n2_ := Aside0.mk (blk_far BC.out (p := ⟨gi, 0, none⟩) (Vs.ne_ty BC.out HE.out.bi (by decide)) (.int .i64 (ch.f0 + ch.f1)))
          clear HE BC ci zi hHeld
          have HE := n1_
          have BC := n2_
          clear n1_ n2_
          generalize w2.setCell ⟨gi, 0, none⟩ (.int .i64 (ch.f0 + ch.f1)) = w5 at HE BC ⊢
          refine hK.out _ _ ⟨(blk_cell BC.out 0).trans rfl, (blk_cell BC.out 1).trans rfl, (blk_cell BC.out 2).trans rfl, (blk_cell BC.out 3).trans rfl⟩ (fun hHeld => ?_)
          clear hK K
          have cj := (blk_cell HE.out.bj 0).trans (show _ = some (Value.int .i64 (j + n)) from rfl)
          have zj := blk_frozen HE.out.bj 0
          refine last_ (i := 11) (N := none) #[true, true, true, true, true, true, true, true, true, true, true, true] rfl rfl (one_of HT_.out (by kernel_rfl)) (by decide) (fun K hK => ?_)
          refine skip_ (w1 := w5.setCell ⟨gj, 0, none⟩ (.int .i64 (ch.f2 + ch.f3))) (by rfl) rfl (by go_simp) ?_
          have n1_ := Aside0.mk (HE.out.setj (ch.f2 + ch.f3))
          clear HE cj zj hHeld
          have HE := n1_
          clear n1_
          generalize w5.setCell ⟨gj, 0, none⟩ (.int .i64 (ch.f2 + ch.f3)) = w6 at HE ⊢
          refine hK.out _ _ ?_
          clear hK K ha4 hb4
          refine done_ (done_of HT_.out (by kernel_rfl)) ?_
          clear HT_ HW_
          have hw := HW.out
          go_wp2
          go_roundg q1
          case measure => omega
          case rel => exact ⟨z + 1, ch.f0 + ch.f1, ch.f2 + ch.f3, acc ++ r1 ++ r2, by go_num, by omega, by have := HZ.out; have := HG.out; omega, ⟨by have := HZ.out; omega⟩, HGO2, HE⟩
        | succ q2 =>
          have hp : (kk < (m : Int)) = True := eq_true (by have := HKZ.out.1; omega)
          have h := HCH.out
          rw [Vs.chg] at h
          obtain ⟨r, hr, h⟩ := Option.bind_eq_some_iff.mp h
          obtain ⟨R2, hR2, h⟩ := Option.bind_eq_some_iff.mp h
          have HR2_ := Aside0.mk hR2
          have HRE := Aside0.mk (Option.some.inj h)
          clear h hR2 HCH
          have HKW := Aside0.mk (show wrap64 (kk + 1) = kk + 1 by unfold wrap64; omega)
          have HLA : Aside0 (ac.length ≤ 100000000000000) := ⟨by have h := congrArg List.length HKZ.out.2; rw [List.length_append, List.length_append, List.length_append] at h; have := HSZ.out; omega⟩
          have HL1_ := Aside0.mk (show (l1.length : Int) ≤ 1000000000000 by have := HG.out; omega)
          have HL2_ := Aside0.mk (show (l2.length : Int) ≤ 1000000000000 by have := HG.out; omega)
          by_cases e3 : kk ≥ ch.f3
          · rw [if_pos e3] at hr
            have g3 := eq_true e3
            have g3b : decide (kk ≥ ch.f3) = true := decide_eq_true e3
            by_cases hb : 0 ≤ ch.f0 + kk ∧ ch.f0 + kk < (l1.length : Int)
            case neg => rw [if_neg hb] at hr; cases hr
            rw [if_pos hb] at hr
            obtain ⟨b1, b2⟩ := hb
            obtain ⟨fa, hfa⟩ : ∃ fa, ch.f0 + kk = fa := ⟨_, rfl⟩
            rw [hfa] at b1 b2 hr
            obtain ⟨ad3, ea3, hx1⟩ := Kd.at_string HR1.out fa b1 b2
            cases ea3
            obtain ⟨s1, hs1⟩ : ∃ s, rdOf ByteArray.empty l1 fa = s := ⟨_, rfl⟩
            rw [hs1] at hx1 hr
            have HX1 := Aside0.mk hx1
            have pa1 := eq_true b1
            have pa2 := eq_true b2
            have hwa4 : IntKind.i64.wrap (ch.f0 + kk) = fa := (i64_w _).trans (by have := HL1_.out; rw [hfa]; unfold wrap64; omega)
            clear hx1 hs1 b1 b2 hfa
            have HRW := Aside0.mk hr
            clear hr e3
            go_upto_region 20 with (fail)
            have n1_ := Aside0.mk HE.out.drew
            have n2_ : Aside0 (wr.drew.heap[gc]? = some (.cells #[.int .i64 ch.f0, .int .i64 ch.f1, .int .i64 ch.f2, .int .i64 ch.f3] 72 (0, 0))) := ⟨BC.out⟩
            clear HE BC c_0 c_1 c_2 c_3
            have HE := n1_
            have BC := n2_
            clear n1_ n2_
            refine start_ (n := 9) (S := fun w' => w'.cell? ⟨gr, 0, none⟩ = some (Value.func (.func 30) #[] #[.pointer (some ⟨gs, 0, none⟩), .pointer (some ⟨gw, 0, none⟩), .pointer (some ⟨gb, 0, none⟩)]) ∧ w'.cell? ⟨gA, 0, none⟩ = some (.slice (some ad3) l1.length c1) ∧ w'.cell? ⟨gc, 0, none⟩ = some (.int .i64 ch.f0) ∧ w'.cell? (ad3.add fa.toNat) = some (.string s1)) (ds := [8]) #[false, false, false, false, false, false, false, false, false] (by kernel_rfl) rfl rfl ⟨(blk_cell HE.out.br 0).trans rfl, (blk_cell HE.out.ba 0).trans rfl, (blk_cell BC.out 0).trans rfl, (HE.out.x.b_.cell (World.block_lt_of_cell? w _ HX1.out)).trans HX1.out⟩ (fun hHeld => ?_)
            refine with_tabW Vs.tabS20 Vs.bitsS20 (fun HT_ HW_ => ?_)
            generalize wr.drew = w2 at HE BC hHeld ⊢
            refine take_ (i := 0) (N := some 77) (v := ?_) (a' := ?_) #[true, false, false, false, false, false, false, false, false] rfl rfl (take_ofW HT_.out HW_.out (by kernel_rfl)) (fun _ _ _ h => h) (Or.inl ⟨by rfl, ?_⟩) hHeld ?_ ?_
            rotate_left
            · rintro w' ⟨t0_, t1_, t2_, t3_⟩
              go_simp
              with_reducible rfl
            rotate_left
            · simp only [Act.put, List.setIfInBounds_toArray, List.set_cons_zero, List.set_cons_succ, i64_w, i32_w]
              rfl
            refine take_ (i := 1) (N := some 78) (v := ?_) (a' := ?_) #[true, true, false, false, false, false, false, false, false] rfl rfl (take_ofW HT_.out HW_.out (by kernel_rfl)) (fun _ _ _ h => h) (Or.inl ⟨by rfl, ?_⟩) hHeld ?_ ?_
            rotate_left
            · rintro w' ⟨t0_, t1_, t2_, t3_⟩
              go_simp
              with_reducible rfl
            rotate_left
            · simp only [Act.put, List.setIfInBounds_toArray, List.set_cons_zero, List.set_cons_succ, i64_w, i32_w]
              rfl
            refine pure_ (i := 2) (N := some 79) (v := ?_) (a' := ?_) #[true, true, true, false, false, false, false, false, false] rfl rfl (any_of HT_.out (by kernel_rfl)) (fun _ _ _ h => h) (Or.inl ⟨by rfl, ?_⟩) ?_ ?_
            rotate_left
            · intro w'
              go_simp
              with_reducible rfl
            rotate_left
            · simp only [Act.put, List.setIfInBounds_toArray, List.set_cons_zero, List.set_cons_succ, i64_w, i32_w]
              rfl
            refine take_ (i := 3) (N := some 80) (v := ?_) (a' := ?_) #[true, true, true, true, false, false, false, false, false] rfl rfl (take_ofW HT_.out HW_.out (by kernel_rfl)) (fun _ _ _ h => h) (Or.inl ⟨by rfl, ?_⟩) hHeld ?_ ?_
            rotate_left
            · rintro w' ⟨t0_, t1_, t2_, t3_⟩
              go_simp
              with_reducible rfl
            rotate_left
            · simp only [Act.put, List.setIfInBounds_toArray, List.set_cons_zero, List.set_cons_succ, i64_w, i32_w]
              rfl
            refine pure_ (i := 4) (N := some 81) (v := ?_) (a' := ?_) #[true, true, true, true, true, false, false, false, false] rfl rfl (any_of HT_.out (by kernel_rfl)) (fun _ _ _ h => h) (Or.inl ⟨by rfl, ?_⟩) ?_ ?_
            rotate_left
            · intro w'
              go_simp
              with_reducible rfl
            rotate_left
            · simp only [Act.put, List.setIfInBounds_toArray, List.set_cons_zero, List.set_cons_succ, i64_w, i32_w]
              rfl
            refine pure_ (i := 5) (N := some 82) (v := ?_) (a' := ?_) #[true, true, true, true, true, true, false, false, false] rfl rfl (any_of HT_.out (by kernel_rfl)) (fun _ _ _ h => h) (Or.inl ⟨by rfl, ?_⟩) ?_ ?_
            rotate_left
            · intro w'
              go_simp
              with_reducible rfl
            rotate_left
            · simp only [Act.put, List.setIfInBounds_toArray, List.set_cons_zero, List.set_cons_succ, i64_w, i32_w]
              rfl
            refine pure_ (i := 6) (N := some 83) (v := ?_) (a' := ?_) #[true, true, true, true, true, true, true, false, false] rfl rfl (any_of HT_.out (by kernel_rfl)) (fun _ _ _ h => h) (Or.inl ⟨by rfl, ?_⟩) ?_ ?_
            rotate_left
            · intro w'
              go_simp
              with_reducible rfl
            rotate_left
            · simp only [Act.put, List.setIfInBounds_toArray, List.set_cons_zero, List.set_cons_succ, i64_w, i32_w]
              rfl
            refine take_ (i := 7) (N := some 84) (v := ?_) (a' := ?_) #[true, true, true, true, true, true, true, true, false] rfl rfl (take_ofW HT_.out HW_.out (by kernel_rfl)) (fun _ _ _ h => h) (Or.inl ⟨by rfl, ?_⟩) hHeld ?_ ?_
            rotate_left
            · rintro w' ⟨t0_, t1_, t2_, t3_⟩
              go_simp
              with_reducible rfl
            rotate_left
            · simp only [Act.put, List.setIfInBounds_toArray, List.set_cons_zero, List.set_cons_succ, i64_w, i32_w]
              rfl
            refine last_ (i := 8) (N := some 85) #[true, true, true, true, true, true, true, true, true] rfl rfl (one_of HT_.out (by kernel_rfl)) (by decide) (fun K hK => ?_)
            refine Vs.goesc_ Tryd.func30 (by kernel_rfl) rfl #[.string s1, .string ⟨#[60]⟩, .string ⟨#[]⟩, .pointer (some ⟨gs, 0, none⟩), .pointer (some ⟨gw, 0, none⟩), .pointer (some ⟨gb, 0, none⟩)] (by rfl) rfl rfl rfl (by (try simp only [List.map_toArray, List.map_cons, List.map_nil]); first | done | rfl) ?_
            refine (Vs.row_calls gs gw gb a3 w ac s1 ⟨#[60]⟩ ⟨#[]⟩ r w2 HE.out.bs HE.out.bw HE.out.x hwd1 hwd2 (by decide) HRW.out HLA.out).mono ?_
            rintro e' w3 ⟨rfl, hx3, hf3⟩
            refine ⟨_, rfl, ?_⟩
            have n1_ := Aside0.mk (HE.out.row hx3 hf3)
            have n2_ := Aside0.mk (hf3 gc _ _ (Vs.nb_ HE.out.x BC.out (by decide)) (by decide) BC.out)
            clear HE BC hx3 hf3 hHeld
            have HE := n1_
            have BC := n2_
            clear n1_ n2_
            refine hK.out _ _ ?_
            clear hK K
            refine norm_ (a' := ?_) ?_ ?_
            rotate_left
            · show Act.put _ (some 85) _ = _
              simp only [Act.put, List.setIfInBounds_toArray, List.set_cons_zero, List.set_cons_succ, i64_w, i32_w]
              rfl
            refine done_ (done_of HT_.out (by kernel_rfl)) ?_
            clear HT_ HW_
            have hkw := HKW.out
            go_wp2
            go_roundg q2
            case measure => omega
            case rel => exact ⟨kk + 1, ac ++ r.data.toList, R2, by go_num, by omega, by have := HKZ.out.1; have := HM3.out; omega, ⟨by have := HKZ.out.1; omega, by rw [List.append_assoc, HRE.out]; exact HKZ.out.2⟩, HR2_, HE, BC⟩
          rw [if_neg e3] at hr
          have g3 := eq_false e3
          have g3b : decide (kk ≥ ch.f3) = false := decide_eq_false e3
          by_cases e1 : kk ≥ ch.f1
          · rw [if_pos e1] at hr
            have g1 := eq_true e1
            have g1b : decide (kk ≥ ch.f1) = true := decide_eq_true e1
            by_cases hb : 0 ≤ ch.f2 + kk ∧ ch.f2 + kk < (l2.length : Int)
            case neg => rw [if_neg hb] at hr; cases hr
            rw [if_pos hb] at hr
            obtain ⟨b3, b4⟩ := hb
            obtain ⟨fb, hfb⟩ : ∃ fb, ch.f2 + kk = fb := ⟨_, rfl⟩
            rw [hfb] at b3 b4 hr
            obtain ⟨ad4, ea4, hx2⟩ := Kd.at_string HR2.out fb b3 b4
            cases ea4
            obtain ⟨s2, hs2⟩ : ∃ s, rdOf ByteArray.empty l2 fb = s := ⟨_, rfl⟩
            rw [hs2] at hx2 hr
            have HX2 := Aside0.mk hx2
            have pb1 := eq_true b3
            have pb2 := eq_true b4
            have hwb4 : IntKind.i64.wrap (ch.f2 + kk) = fb := (i64_w _).trans (by have := HL2_.out; rw [hfb]; unfold wrap64; omega)
            clear hx2 hs2 b3 b4 hfb
            have HRW := Aside0.mk hr
            clear hr e3 e1
            go_upto_region 22 with (fail)
            have n1_ := Aside0.mk HE.out.drew
            have n2_ : Aside0 (wr.drew.heap[gc]? = some (.cells #[.int .i64 ch.f0, .int .i64 ch.f1, .int .i64 ch.f2, .int .i64 ch.f3] 72 (0, 0))) := ⟨BC.out⟩
            clear HE BC c_0 c_1 c_2 c_3
            have HE := n1_
            have BC := n2_
            clear n1_ n2_
            refine start_ (n := 9) (S := fun w' => w'.cell? ⟨gr, 0, none⟩ = some (Value.func (.func 30) #[] #[.pointer (some ⟨gs, 0, none⟩), .pointer (some ⟨gw, 0, none⟩), .pointer (some ⟨gb, 0, none⟩)]) ∧ w'.cell? ⟨gB, 0, none⟩ = some (.slice (some ad4) l2.length c2) ∧ w'.cell? ⟨gc, 2, none⟩ = some (.int .i64 ch.f2) ∧ w'.cell? (ad4.add fb.toNat) = some (.string s2)) (ds := [8]) #[false, false, false, false, false, false, false, false, false] (by kernel_rfl) rfl rfl ⟨(blk_cell HE.out.br 0).trans rfl, (blk_cell HE.out.bb 0).trans rfl, (blk_cell BC.out 2).trans rfl, (HE.out.x.b_.cell (World.block_lt_of_cell? w _ HX2.out)).trans HX2.out⟩ (fun hHeld => ?_)
            refine with_tabW Vs.tabS22 Vs.bitsS22 (fun HT_ HW_ => ?_)
            generalize wr.drew = w2 at HE BC hHeld ⊢
            refine take_ (i := 0) (N := some 91) (v := ?_) (a' := ?_) #[true, false, false, false, false, false, false, false, false] rfl rfl (take_ofW HT_.out HW_.out (by kernel_rfl)) (fun _ _ _ h => h) (Or.inl ⟨by rfl, ?_⟩) hHeld ?_ ?_
            rotate_left
            · rintro w' ⟨t0_, t1_, t2_, t3_⟩
              go_simp
              with_reducible rfl
            rotate_left
            · simp only [Act.put, List.setIfInBounds_toArray, List.set_cons_zero, List.set_cons_succ, i64_w, i32_w]
              rfl
            refine take_ (i := 1) (N := some 92) (v := ?_) (a' := ?_) #[true, true, false, false, false, false, false, false, false] rfl rfl (take_ofW HT_.out HW_.out (by kernel_rfl)) (fun _ _ _ h => h) (Or.inl ⟨by rfl, ?_⟩) hHeld ?_ ?_
            rotate_left
            · rintro w' ⟨t0_, t1_, t2_, t3_⟩
              go_simp
              with_reducible rfl
            rotate_left
            · simp only [Act.put, List.setIfInBounds_toArray, List.set_cons_zero, List.set_cons_succ, i64_w, i32_w]
              rfl
            refine pure_ (i := 2) (N := some 93) (v := ?_) (a' := ?_) #[true, true, true, false, false, false, false, false, false] rfl rfl (any_of HT_.out (by kernel_rfl)) (fun _ _ _ h => h) (Or.inl ⟨by rfl, ?_⟩) ?_ ?_
            rotate_left
            · intro w'
              go_simp
              with_reducible rfl
            rotate_left
            · simp only [Act.put, List.setIfInBounds_toArray, List.set_cons_zero, List.set_cons_succ, i64_w, i32_w]
              rfl
            refine take_ (i := 3) (N := some 94) (v := ?_) (a' := ?_) #[true, true, true, true, false, false, false, false, false] rfl rfl (take_ofW HT_.out HW_.out (by kernel_rfl)) (fun _ _ _ h => h) (Or.inl ⟨by rfl, ?_⟩) hHeld ?_ ?_
            rotate_left
            · rintro w' ⟨t0_, t1_, t2_, t3_⟩
              go_simp
              with_reducible rfl
            rotate_left
            · simp only [Act.put, List.setIfInBounds_toArray, List.set_cons_zero, List.set_cons_succ, i64_w, i32_w]
              rfl
            refine pure_ (i := 4) (N := some 95) (v := ?_) (a' := ?_) #[true, true, true, true, true, false, false, false, false] rfl rfl (any_of HT_.out (by kernel_rfl)) (fun _ _ _ h => h) (Or.inl ⟨by rfl, ?_⟩) ?_ ?_
            rotate_left
            · intro w'
              go_simp
              with_reducible rfl
            rotate_left
            · simp only [Act.put, List.setIfInBounds_toArray, List.set_cons_zero, List.set_cons_succ, i64_w, i32_w]
              rfl
            refine pure_ (i := 5) (N := some 96) (v := ?_) (a' := ?_) #[true, true, true, true, true, true, false, false, false] rfl rfl (any_of HT_.out (by kernel_rfl)) (fun _ _ _ h => h) (Or.inl ⟨by rfl, ?_⟩) ?_ ?_
            rotate_left
            · intro w'
              go_simp
              with_reducible rfl
            rotate_left
            · simp only [Act.put, List.setIfInBounds_toArray, List.set_cons_zero, List.set_cons_succ, i64_w, i32_w]
              rfl
            refine pure_ (i := 6) (N := some 97) (v := ?_) (a' := ?_) #[true, true, true, true, true, true, true, false, false] rfl rfl (any_of HT_.out (by kernel_rfl)) (fun _ _ _ h => h) (Or.inl ⟨by rfl, ?_⟩) ?_ ?_
            rotate_left
            · intro w'
              go_simp
              with_reducible rfl
            rotate_left
            · simp only [Act.put, List.setIfInBounds_toArray, List.set_cons_zero, List.set_cons_succ, i64_w, i32_w]
              rfl
            refine take_ (i := 7) (N := some 98) (v := ?_) (a' := ?_) #[true, true, true, true, true, true, true, true, false] rfl rfl (take_ofW HT_.out HW_.out (by kernel_rfl)) (fun _ _ _ h => h) (Or.inl ⟨by rfl, ?_⟩) hHeld ?_ ?_
            rotate_left
            · rintro w' ⟨t0_, t1_, t2_, t3_⟩
              go_simp
              with_reducible rfl
            rotate_left
            · simp only [Act.put, List.setIfInBounds_toArray, List.set_cons_zero, List.set_cons_succ, i64_w, i32_w]
              rfl
            refine last_ (i := 8) (N := some 99) #[true, true, true, true, true, true, true, true, true] rfl rfl (one_of HT_.out (by kernel_rfl)) (by decide) (fun K hK => ?_)
            refine Vs.goesc_ Tryd.func30 (by kernel_rfl) rfl #[.string ⟨#[]⟩, .string ⟨#[62]⟩, .string s2, .pointer (some ⟨gs, 0, none⟩), .pointer (some ⟨gw, 0, none⟩), .pointer (some ⟨gb, 0, none⟩)] (by rfl) rfl rfl rfl (by (try simp only [List.map_toArray, List.map_cons, List.map_nil]); first | done | rfl) ?_
            refine (Vs.row_calls gs gw gb a3 w ac ⟨#[]⟩ ⟨#[62]⟩ s2 r w2 HE.out.bs HE.out.bw HE.out.x hwd1 hwd2 (by decide) HRW.out HLA.out).mono ?_
            rintro e' w3 ⟨rfl, hx3, hf3⟩
            refine ⟨_, rfl, ?_⟩
            have n1_ := Aside0.mk (HE.out.row hx3 hf3)
            have n2_ := Aside0.mk (hf3 gc _ _ (Vs.nb_ HE.out.x BC.out (by decide)) (by decide) BC.out)
            clear HE BC hx3 hf3 hHeld
            have HE := n1_
            have BC := n2_
            clear n1_ n2_
            refine hK.out _ _ ?_
            clear hK K
            refine norm_ (a' := ?_) ?_ ?_
            rotate_left
            · show Act.put _ (some 99) _ = _
              simp only [Act.put, List.setIfInBounds_toArray, List.set_cons_zero, List.set_cons_succ, i64_w, i32_w]
              rfl
            refine done_ (done_of HT_.out (by kernel_rfl)) ?_
            clear HT_ HW_
            have hkw := HKW.out
            go_wp2
            go_roundg q2
            case measure => omega
            case rel => exact ⟨kk + 1, ac ++ r.data.toList, R2, by go_num, by omega, by have := HKZ.out.1; have := HM3.out; omega, ⟨by have := HKZ.out.1; omega, by rw [List.append_assoc, HRE.out]; exact HKZ.out.2⟩, HR2_, HE, BC⟩
          rw [if_neg e1] at hr
          have g1 := eq_false e1
          have g1b : decide (kk ≥ ch.f1) = false := decide_eq_false e1
          by_cases hb : 0 ≤ ch.f0 + kk ∧ ch.f0 + kk < (l1.length : Int) ∧ 0 ≤ ch.f2 + kk ∧ ch.f2 + kk < (l2.length : Int)
          case neg => rw [if_neg hb] at hr; cases hr
          rw [if_pos hb] at hr
          obtain ⟨b1, b2, b3, b4⟩ := hb
          obtain ⟨fa, hfa⟩ : ∃ fa, ch.f0 + kk = fa := ⟨_, rfl⟩
          rw [hfa] at b1 b2 hr
          obtain ⟨ad3, ea3, hx1⟩ := Kd.at_string HR1.out fa b1 b2
          cases ea3
          obtain ⟨s1, hs1⟩ : ∃ s, rdOf ByteArray.empty l1 fa = s := ⟨_, rfl⟩
          rw [hs1] at hx1 hr
          have HX1 := Aside0.mk hx1
          have pa1 := eq_true b1
          have pa2 := eq_true b2
          have hwa4 : IntKind.i64.wrap (ch.f0 + kk) = fa := (i64_w _).trans (by have := HL1_.out; rw [hfa]; unfold wrap64; omega)
          clear hx1 hs1 b1 b2 hfa
          obtain ⟨fb, hfb⟩ : ∃ fb, ch.f2 + kk = fb := ⟨_, rfl⟩
          rw [hfb] at b3 b4 hr
          obtain ⟨ad4, ea4, hx2⟩ := Kd.at_string HR2.out fb b3 b4
          cases ea4
          obtain ⟨s2, hs2⟩ : ∃ s, rdOf ByteArray.empty l2 fb = s := ⟨_, rfl⟩
          rw [hs2] at hx2 hr
          have HX2 := Aside0.mk hx2
          have pb1 := eq_true b3
          have pb2 := eq_true b4
          have hwb4 : IntKind.i64.wrap (ch.f2 + kk) = fb := (i64_w _).trans (by have := HL2_.out; rw [hfb]; unfold wrap64; omega)
          clear hx2 hs2 b3 b4 hfb
          have HRW := Aside0.mk hr
          clear hr e3 e1
          go_upto_region 18 with (fail)
          have n1_ := Aside0.mk HE.out.drew
          have n2_ : Aside0 (wr.drew.heap[gc]? = some (.cells #[.int .i64 ch.f0, .int .i64 ch.f1, .int .i64 ch.f2, .int .i64 ch.f3] 72 (0, 0))) := ⟨BC.out⟩
          clear HE BC c_0 c_1 c_2 c_3
          have HE := n1_
          have BC := n2_
          clear n1_ n2_
          refine start_ (n := 16) (S := fun w' => w'.cell? ⟨gr, 0, none⟩ = some (Value.func (.func 30) #[] #[.pointer (some ⟨gs, 0, none⟩), .pointer (some ⟨gw, 0, none⟩), .pointer (some ⟨gb, 0, none⟩)]) ∧ w'.cell? ⟨gA, 0, none⟩ = some (.slice (some ad3) l1.length c1) ∧ w'.cell? ⟨gc, 0, none⟩ = some (.int .i64 ch.f0) ∧ w'.cell? (ad3.add fa.toNat) = some (.string s1) ∧ w'.cell? ⟨gB, 0, none⟩ = some (.slice (some ad4) l2.length c2) ∧ w'.cell? ⟨gc, 2, none⟩ = some (.int .i64 ch.f2) ∧ w'.cell? (ad4.add fb.toNat) = some (.string s2)) (ds := [15]) #[false, false, false, false, false, false, false, false, false, false, false, false, false, false, false, false] (by kernel_rfl) rfl rfl ⟨(blk_cell HE.out.br 0).trans rfl, (blk_cell HE.out.ba 0).trans rfl, (blk_cell BC.out 0).trans rfl, (HE.out.x.b_.cell (World.block_lt_of_cell? w _ HX1.out)).trans HX1.out, (blk_cell HE.out.bb 0).trans rfl, (blk_cell BC.out 2).trans rfl, (HE.out.x.b_.cell (World.block_lt_of_cell? w _ HX2.out)).trans HX2.out⟩ (fun hHeld => ?_)
          refine with_tabW Vs.tabS18 Vs.bitsS18 (fun HT_ HW_ => ?_)
          generalize wr.drew = w2 at HE BC hHeld ⊢
          refine take_ (i := 0) (N := some 56) (v := ?_) (a' := ?_) #[true, false, false, false, false, false, false, false, false, false, false, false, false, false, false, false] rfl rfl (take_ofW HT_.out HW_.out (by kernel_rfl)) (fun _ _ _ h => h) (Or.inl ⟨by rfl, ?_⟩) hHeld ?_ ?_
          rotate_left
          · rintro w' ⟨t0_, t1_, t2_, t3_, t4_, t5_, t6_⟩
            go_simp
            with_reducible rfl
          rotate_left
          · simp only [Act.put, List.setIfInBounds_toArray, List.set_cons_zero, List.set_cons_succ, i64_w, i32_w]
            rfl
          refine take_ (i := 1) (N := some 57) (v := ?_) (a' := ?_) #[true, true, false, false, false, false, false, false, false, false, false, false, false, false, false, false] rfl rfl (take_ofW HT_.out HW_.out (by kernel_rfl)) (fun _ _ _ h => h) (Or.inl ⟨by rfl, ?_⟩) hHeld ?_ ?_
          rotate_left
          · rintro w' ⟨t0_, t1_, t2_, t3_, t4_, t5_, t6_⟩
            go_simp
            with_reducible rfl
          rotate_left
          · simp only [Act.put, List.setIfInBounds_toArray, List.set_cons_zero, List.set_cons_succ, i64_w, i32_w]
            rfl
          refine pure_ (i := 2) (N := some 58) (v := ?_) (a' := ?_) #[true, true, true, false, false, false, false, false, false, false, false, false, false, false, false, false] rfl rfl (any_of HT_.out (by kernel_rfl)) (fun _ _ _ h => h) (Or.inl ⟨by rfl, ?_⟩) ?_ ?_
          rotate_left
          · intro w'
            go_simp
            with_reducible rfl
          rotate_left
          · simp only [Act.put, List.setIfInBounds_toArray, List.set_cons_zero, List.set_cons_succ, i64_w, i32_w]
            rfl
          refine take_ (i := 3) (N := some 59) (v := ?_) (a' := ?_) #[true, true, true, true, false, false, false, false, false, false, false, false, false, false, false, false] rfl rfl (take_ofW HT_.out HW_.out (by kernel_rfl)) (fun _ _ _ h => h) (Or.inl ⟨by rfl, ?_⟩) hHeld ?_ ?_
          rotate_left
          · rintro w' ⟨t0_, t1_, t2_, t3_, t4_, t5_, t6_⟩
            go_simp
            with_reducible rfl
          rotate_left
          · simp only [Act.put, List.setIfInBounds_toArray, List.set_cons_zero, List.set_cons_succ, i64_w, i32_w]
            rfl
          refine pure_ (i := 4) (N := some 60) (v := ?_) (a' := ?_) #[true, true, true, true, true, false, false, false, false, false, false, false, false, false, false, false] rfl rfl (any_of HT_.out (by kernel_rfl)) (fun _ _ _ h => h) (Or.inl ⟨by rfl, ?_⟩) ?_ ?_
          rotate_left
          · intro w'
            go_simp
            with_reducible rfl
          rotate_left
          · simp only [Act.put, List.setIfInBounds_toArray, List.set_cons_zero, List.set_cons_succ, i64_w, i32_w]
            rfl
          refine pure_ (i := 5) (N := some 61) (v := ?_) (a' := ?_) #[true, true, true, true, true, true, false, false, false, false, false, false, false, false, false, false] rfl rfl (any_of HT_.out (by kernel_rfl)) (fun _ _ _ h => h) (Or.inl ⟨by rfl, ?_⟩) ?_ ?_
          rotate_left
          · intro w'
            go_simp
            with_reducible rfl
          rotate_left
          · simp only [Act.put, List.setIfInBounds_toArray, List.set_cons_zero, List.set_cons_succ, i64_w, i32_w]
            rfl
          refine pure_ (i := 6) (N := some 62) (v := ?_) (a' := ?_) #[true, true, true, true, true, true, true, false, false, false, false, false, false, false, false, false] rfl rfl (any_of HT_.out (by kernel_rfl)) (fun _ _ _ h => h) (Or.inl ⟨by rfl, ?_⟩) ?_ ?_
          rotate_left
          · intro w'
            go_simp
            with_reducible rfl
          rotate_left
          · simp only [Act.put, List.setIfInBounds_toArray, List.set_cons_zero, List.set_cons_succ, i64_w, i32_w]
            rfl
          refine take_ (i := 7) (N := some 63) (v := ?_) (a' := ?_) #[true, true, true, true, true, true, true, true, false, false, false, false, false, false, false, false] rfl rfl (take_ofW HT_.out HW_.out (by kernel_rfl)) (fun _ _ _ h => h) (Or.inl ⟨by rfl, ?_⟩) hHeld ?_ ?_
          rotate_left
          · rintro w' ⟨t0_, t1_, t2_, t3_, t4_, t5_, t6_⟩
            go_simp
            with_reducible rfl
          rotate_left
          · simp only [Act.put, List.setIfInBounds_toArray, List.set_cons_zero, List.set_cons_succ, i64_w, i32_w]
            rfl
          refine take_ (i := 8) (N := some 64) (v := ?_) (a' := ?_) #[true, true, true, true, true, true, true, true, true, false, false, false, false, false, false, false] rfl rfl (take_ofW HT_.out HW_.out (by kernel_rfl)) (fun _ _ _ h => h) (Or.inl ⟨by rfl, ?_⟩) hHeld ?_ ?_
          rotate_left
          · rintro w' ⟨t0_, t1_, t2_, t3_, t4_, t5_, t6_⟩
            go_simp
            with_reducible rfl
          rotate_left
          · simp only [Act.put, List.setIfInBounds_toArray, List.set_cons_zero, List.set_cons_succ, i64_w, i32_w]
            rfl
          refine pure_ (i := 9) (N := some 65) (v := ?_) (a' := ?_) #[true, true, true, true, true, true, true, true, true, true, false, false, false, false, false, false] rfl rfl (any_of HT_.out (by kernel_rfl)) (fun _ _ _ h => h) (Or.inl ⟨by rfl, ?_⟩) ?_ ?_
          rotate_left
          · intro w'
            go_simp
            with_reducible rfl
          rotate_left
          · simp only [Act.put, List.setIfInBounds_toArray, List.set_cons_zero, List.set_cons_succ, i64_w, i32_w]
            rfl
          refine take_ (i := 10) (N := some 66) (v := ?_) (a' := ?_) #[true, true, true, true, true, true, true, true, true, true, true, false, false, false, false, false] rfl rfl (take_ofW HT_.out HW_.out (by kernel_rfl)) (fun _ _ _ h => h) (Or.inl ⟨by rfl, ?_⟩) hHeld ?_ ?_
          rotate_left
          · rintro w' ⟨t0_, t1_, t2_, t3_, t4_, t5_, t6_⟩
            go_simp
            with_reducible rfl
          rotate_left
          · simp only [Act.put, List.setIfInBounds_toArray, List.set_cons_zero, List.set_cons_succ, i64_w, i32_w]
            rfl
          refine pure_ (i := 11) (N := some 67) (v := ?_) (a' := ?_) #[true, true, true, true, true, true, true, true, true, true, true, true, false, false, false, false] rfl rfl (any_of HT_.out (by kernel_rfl)) (fun _ _ _ h => h) (Or.inl ⟨by rfl, ?_⟩) ?_ ?_
          rotate_left
          · intro w'
            go_simp
            with_reducible rfl
          rotate_left
          · simp only [Act.put, List.setIfInBounds_toArray, List.set_cons_zero, List.set_cons_succ, i64_w, i32_w]
            rfl
          refine pure_ (i := 12) (N := some 68) (v := ?_) (a' := ?_) #[true, true, true, true, true, true, true, true, true, true, true, true, true, false, false, false] rfl rfl (any_of HT_.out (by kernel_rfl)) (fun _ _ _ h => h) (Or.inl ⟨by rfl, ?_⟩) ?_ ?_
          rotate_left
          · intro w'
            go_simp
            with_reducible rfl
          rotate_left
          · simp only [Act.put, List.setIfInBounds_toArray, List.set_cons_zero, List.set_cons_succ, i64_w, i32_w]
            rfl
          refine pure_ (i := 13) (N := some 69) (v := ?_) (a' := ?_) #[true, true, true, true, true, true, true, true, true, true, true, true, true, true, false, false] rfl rfl (any_of HT_.out (by kernel_rfl)) (fun _ _ _ h => h) (Or.inl ⟨by rfl, ?_⟩) ?_ ?_
          rotate_left
          · intro w'
            go_simp
            with_reducible rfl
          rotate_left
          · simp only [Act.put, List.setIfInBounds_toArray, List.set_cons_zero, List.set_cons_succ, i64_w, i32_w]
            rfl
          refine take_ (i := 14) (N := some 70) (v := ?_) (a' := ?_) #[true, true, true, true, true, true, true, true, true, true, true, true, true, true, true, false] rfl rfl (take_ofW HT_.out HW_.out (by kernel_rfl)) (fun _ _ _ h => h) (Or.inl ⟨by rfl, ?_⟩) hHeld ?_ ?_
          rotate_left
          · rintro w' ⟨t0_, t1_, t2_, t3_, t4_, t5_, t6_⟩
            go_simp
            with_reducible rfl
          rotate_left
          · simp only [Act.put, List.setIfInBounds_toArray, List.set_cons_zero, List.set_cons_succ, i64_w, i32_w]
            rfl
          refine last_ (i := 15) (N := some 71) #[true, true, true, true, true, true, true, true, true, true, true, true, true, true, true, true] rfl rfl (one_of HT_.out (by kernel_rfl)) (by decide) (fun K hK => ?_)
          refine Vs.goesc_ Tryd.func30 (by kernel_rfl) rfl #[.string s1, .string ⟨#[124]⟩, .string s2, .pointer (some ⟨gs, 0, none⟩), .pointer (some ⟨gw, 0, none⟩), .pointer (some ⟨gb, 0, none⟩)] (by rfl) rfl rfl rfl (by (try simp only [List.map_toArray, List.map_cons, List.map_nil]); first | done | rfl) ?_
          refine (Vs.row_calls gs gw gb a3 w ac s1 ⟨#[124]⟩ s2 r w2 HE.out.bs HE.out.bw HE.out.x hwd1 hwd2 (by decide) HRW.out HLA.out).mono ?_
          rintro e' w3 ⟨rfl, hx3, hf3⟩
          refine ⟨_, rfl, ?_⟩
          have n1_ := Aside0.mk (HE.out.row hx3 hf3)
          have n2_ := Aside0.mk (hf3 gc _ _ (Vs.nb_ HE.out.x BC.out (by decide)) (by decide) BC.out)
          clear HE BC hx3 hf3 hHeld
          have HE := n1_
          have BC := n2_
          clear n1_ n2_
          refine hK.out _ _ ?_
          clear hK K
          refine norm_ (a' := ?_) ?_ ?_
          rotate_left
          · show Act.put _ (some 71) _ = _
            simp only [Act.put, List.setIfInBounds_toArray, List.set_cons_zero, List.set_cons_succ, i64_w, i32_w]
            rfl
          refine done_ (done_of HT_.out (by kernel_rfl)) ?_
          clear HT_ HW_
          have hkw := HKW.out
          go_wp2
          go_roundg q2
          case measure => omega
          case rel => exact ⟨kk + 1, ac ++ r.data.toList, R2, by go_num, by omega, by have := HKZ.out.1; have := HM3.out; omega, ⟨by have := HKZ.out.1; omega, by rw [List.append_assoc, HRE.out]; exact HKZ.out.2⟩, HR2_, HE, BC⟩
end Go.Proofs.YtchhelmilbheoaaDoor.X
