import Derived.Test.YtchhelmilbheoaaDoorZMXx0
import Derived.Test.YtchhelmilbheoaaDoorZMXx18
import Derived.Test.YtchhelmilbheoaaDoorZMXx19
import Derived.Test.YtchhelmilbheoaaDoorZMXx41
import Derived.Test.YtchhelmilbheoaaDoorZMXx45
import Derived.Deep.OwnRows
import Derived.Lib.Builder
import Derived.Lib.AppendStr
import Derived.Lib.UnsafeStr
import Derived.Laws.Externs
import Derived.Lib.SmallJoins
import Derived.Test.YtchhelmilbheoaaDoorZMHs
namespace Go.Proofs.YtchhelmilbheoaaDoor.X
open Go.RowKit Go.Proofs.YtchhelmilbheoaaDoorW.PrintWords Go.Proofs.YtchhelmilbheoaaDoorW.PrintLast Go.Proofs.YtchhelmilbheoaaDoorW.PrintMore
attribute [local go_sem] max2_int min2_int max_two min_two max_three min_three max_four min_four   -- for this text's walks alone
open Go.Proofs.YtchhelmilbheoaaDoorW.HandWords
set_option linter.unusedVariables false
set_option linter.unusedSimpArgs false
namespace If
structure Bs (b : Nat) (w0 W : World) (l : List UInt8) : Prop where
  i : Lib.IsBuilder 56 5 w0.heap.size b (Lib.byteCells l) W
  b_ : Below w0.heap.size w0 W
theorem at_move {B b : Nat} {p : Value} {bs : List Value} {W W1 : World} (h : Lib.BuilderAt 56 5 B b p bs W) (hb : W1.heap[b]? = W.heap[b]?) (hm : ∀ (k : Nat) (cells : Array Value), W.heap[k]? = some (.cells cells 5 (0, 0)) → W1.heap[k]? = W.heap[k]?) : Lib.BuilderAt 56 5 B b p bs W1 := by
  obtain ⟨h1, v, h2, h3, h4⟩ := h
  exact ⟨h1, v, hb.trans h2, own_move h3 (fun k hk => by obtain ⟨cells, hc⟩ := own_typed h3 k hk; exact hm k cells hc), h4⟩
theorem is_move {B b : Nat} {bs : List Value} {W W1 : World} (h : Lib.IsBuilder 56 5 B b bs W) (hb : W1.heap[b]? = W.heap[b]?) (hm : ∀ (k : Nat) (cells : Array Value), W.heap[k]? = some (.cells cells 5 (0, 0)) → W1.heap[k]? = W.heap[k]?) : Lib.IsBuilder 56 5 B b bs W1 :=
  h.elim (fun h => .inl (at_move h hb hm)) (fun h => .inr (at_move h hb hm))
theorem is_cell {B b : Nat} {bs : List Value} {W : World} (h : Lib.IsBuilder 56 5 B b bs W) : ∃ cs, W.heap[b]? = some (.cells cs 56 (0, 0)) := by
  rcases h with ⟨_, v, h2, _⟩ | ⟨_, v, h2, _⟩ <;> exact ⟨_, h2⟩
theorem Bs.below {b : Nat} {w0 W W1 : World} {l : List UInt8} (h : Bs b w0 W l) (hb : Below W.heap.size W W1) : Bs b w0 W1 l := by
  obtain ⟨cs, hc⟩ := is_cell h.i
  exact ⟨is_move h.i (hb.block b (blk_lt hc)) (fun k cells hk => hb.block k (blk_lt hk)), h.b_.trans (hb.mono h.b_.size)⟩
theorem Bs.far {b : Nat} {w0 W : World} {l : List UInt8} (h : Bs b w0 W l) {g t : Nat} {cs : Array Value} (hb : W.heap[g]? = some (.cells cs t (0, 0))) (n : b ≠ g) (ht : t ≠ 5) (hg : w0.heap.size ≤ g) (i : Nat) (u : Value) : Bs b w0 (W.setCell ⟨g, i, none⟩ u) l :=
  ⟨is_move h.i (Below.heap_setCell W ⟨g, i, none⟩ u b n) (fun k cells hk => Below.heap_setCell W ⟨g, i, none⟩ u k (fun e => by subst e; rw [hk] at hb; injection hb with hb; injection hb with _ h2 _; exact ht h2.symm)), h.b_.setCell hg u⟩
def sets (W : World) (g : Nat) : List (Nat × Value) → World
  | [] => W
  | (i, u) :: l => sets (W.setCell ⟨g, i, none⟩ u) g l
theorem Bs.fars {b : Nat} {w0 : World} {l : List UInt8} {g t : Nat} (n : b ≠ g) (ht : t ≠ 5) (hg : w0.heap.size ≤ g) : ∀ (us : List (Nat × Value)) {W : World} {cs : Array Value}, Bs b w0 W l → W.heap[g]? = some (.cells cs t (0, 0)) → Bs b w0 (sets W g us) l
  | [], W, cs, h, hb => h
  | (i, u) :: us, W, cs, h, hb => Bs.fars n ht hg us (h.far hb n ht hg i u) (blk_put hb i u rfl)
def Fb (b : Nat) (w w' : World) : Prop := ∀ (g : Nat) (cs : Array Value) (t : TypeId), g ≠ b → t ≠ 5 → w.heap[g]? = some (.cells cs t (0, 0)) → w'.heap[g]? = some (.cells cs t (0, 0))
theorem Fb.trans {b : Nat} {w w1 w2 : World} (h : Fb b w w1) (h2 : Fb b w1 w2) : Fb b w w2 := fun g cs t n1 n2 h3 => h2 g cs t n1 n2 (h g cs t n1 n2 h3)
set_option maxHeartbeats 1000000 in
set_option maxRecDepth 100000 in
theorem check_used (b : Nat) (w : World) (h0 : w.cell? ⟨b, 0, none⟩ = some (.pointer (some ⟨b, 0, none⟩))) :
    Calls Tryd.prog 39 #[.pointer (some ⟨b, 0, none⟩)] w fun e w' => e = .returned (.tuple #[]) ∧ w' = w := by
  obtain ⟨j, hj, hjs⟩ : ∃ j, Tryd.prog.info? 56 = some j ∧ j.size = 2 := ⟨_, rfl, rfl⟩
  go_enter Tryd.func39, Tryd.ntmps39
  go_wp2
  rw [Lib.run_neq_ptr_same w _ Tryd.underlying53 hj]
  go_wp2
  go_end0
  exact ⟨rfl, rfl⟩
set_option maxHeartbeats 1000000 in
set_option maxRecDepth 100000 in
theorem check_fresh (b : Nat) (w : World) (h0 : w.cell? ⟨b, 0, none⟩ = some (.pointer none)) (hsh : w.shape? b = some (56, 2)) (hfz : w.frozen? ⟨b, 0, none⟩ = false) :
    Calls Tryd.prog 39 #[.pointer (some ⟨b, 0, none⟩)] w fun e w' => e = .returned (.tuple #[]) ∧ w' = w.setCell ⟨b, 0, none⟩ (.pointer (some ⟨b, 0, none⟩)) := by
  obtain ⟨j, hj, hjs⟩ : ∃ j, Tryd.prog.info? 56 = some j ∧ j.size = 2 := ⟨_, rfl, rfl⟩
  go_enter Tryd.func39, Tryd.ntmps39
  go_wp2
  rw [Lib.run_to_unsafe w ⟨b, 0, none⟩ Tryd.underlying53 Tryd.underlying81 hj (by rw [hjs]; decide) hsh (Nat.zero_lt_succ 1)]
  simp only [Result.andThen]
  rw [Oper.upon_value]
  go_wp2
  rw [run_callFunc_extern Tryd.func59 (by kernel_rfl) (by kernel_rfl) (by kernel_rfl) (e := Extern.AbiNoEscape.same) (by kernel_rfl)]
  rw [Lib.run_noEscape]
  simp only [Result.andThen]
  rw [Oper.upon_value]
  go_wp2
  rw [Lib.run_from_unsafe w ⟨b, 0, none⟩ Tryd.underlying81 Tryd.underlying53 hj hsh (by kernel_rfl)]
  simp only [Result.andThen]
  rw [Oper.upon_value]
  go_wp2
  go_end0
  exact ⟨rfl, rfl⟩
theorem check_any (b : Nat) (w0 : World) (l : List UInt8) (w : World) (h : Bs b w0 w l) :
    Calls Tryd.prog 39 #[.pointer (some ⟨b, 0, none⟩)] w fun e w' => e = .returned (.tuple #[]) ∧ (Lib.BuilderAt 56 5 w0.heap.size b (.pointer (some ⟨b, 0, none⟩)) (Lib.byteCells l) w' ∧ Below w0.heap.size w0 w' ∧ Fb b w w') := by
  rcases h.i with h1 | h1
  · refine (check_fresh b w h1.cell0 h1.shape h1.frozen0).mono ?_
    rintro e w' ⟨rfl, rfl⟩
    exact ⟨rfl, h1.used _, h.b_.setCell (p := ⟨b, 0, none⟩) h1.1 _, fun g cs t n1 n2 h3 => blk_far h3 (p := ⟨b, 0, none⟩) n1 _⟩
  · refine (check_used b w h1.cell0).mono ?_
    rintro e w' ⟨rfl, rfl⟩
    exact ⟨rfl, h1, h.b_, fun _ _ _ _ _ h3 => h3⟩
set_option maxHeartbeats 1000000 in
set_option maxRecDepth 100000 in
theorem write (b : Nat) (w0 : World) (l : List UInt8) (s : ByteArray) (w : World) (h : Bs b w0 w l) (hlen : l.length + s.size ≤ 140737488355328) :
    Calls Tryd.prog 20 #[.pointer (some ⟨b, 0, none⟩), .string s] w fun e w' => e = .returned (.tuple #[.int .i64 s.size, .nilIface]) ∧ Bs b w0 w' (l ++ s.data.toList) ∧ Fb b w w' := by
  have hinf : (Tryd.prog.info? 5).map (fun i => (i.zero, i.size, i.bytes)) = some (some (.int .u8 0), 1, 1) := by kernel_rfl
  obtain ⟨i0, hi, hz0, hz1, hz2⟩ := info_parts hinf
  have hbl := Lib.byteCells_length l
  go_enter Tryd.func20, Tryd.ntmps20
  go_wp2_with (go_at_call 39; refine (check_any b w0 l w h).mono ?_)
  rintro e w1 ⟨rfl, h1, hb1, hf1⟩
  obtain ⟨hB, v, hbk, hown, hne⟩ := h1
  have c0 : w1.cell? ⟨b, 0, none⟩ = some (.pointer (some ⟨b, 0, none⟩)) := (blk_cell hbk 0).trans rfl
  have c1 : w1.cell? ⟨b, 1, none⟩ = some v := (blk_cell hbk 1).trans rfl
  go_wp2_with (at_builtin; refine Lib.wpList_append_own_string _ rfl _ _ 54 9 rfl w0.heap.size 5 i0 Tryd.underlying54 Tryd.underlying9 hi hz0 hz1 hz2 _ _ _ rfl hown s rfl ?c3 ?c4 ?c5 ?_)
  case c3 => unfold maxLen; rw [hbl]; omega
  case c4 => rw [hbl]; omega
  case c5 => exact hb1.size
  intro v' w2 hown' hgrow _
  have hb2 : w2.heap[b]? = some (.cells #[.pointer (some ⟨b, 0, none⟩), v] 56 (0, 0)) := blk_grown hbk hgrow (fun e => hne e.symm)
  have hf2 : Fb b w1 w2 := fun g cs t n1 n2 h3 => blk_grown h3 hgrow (fun e => by
    obtain ⟨cells, hc⟩ := own_typed hown g e.symm
    rw [h3] at hc
    injection hc with hc
    injection hc with _ h4 _
    exact n2 h4)
  have hb3 : Below w0.heap.size w0 w2 := hb1.grown hgrow hb1.size (fun k hk => (hown.lt k hk).1)
  have d0 : w2.cell? ⟨b, 0, none⟩ = some (.pointer (some ⟨b, 0, none⟩)) := (blk_cell hb2 0).trans rfl
  have d1 : w2.cell? ⟨b, 1, none⟩ = some v := (blk_cell hb2 1).trans rfl
  have f1 : w2.frozen? ⟨b, 1, none⟩ = false := blk_frozen hb2 1
  obtain ⟨ao, n', cap, rfl⟩ : ∃ ao n' cap, v' = .slice ao n' cap := by
    rcases hown'.2 with ⟨hv, _⟩ | ⟨g, cap, cur, hv, _⟩
    · exact ⟨_, _, _, hv⟩
    · exact ⟨_, _, _, hv⟩
  go_wp2
  go_ret2
  refine ⟨rfl, ⟨.inr ?_, hb3.setCell (p := ⟨b, 1, none⟩) hB _⟩, fun g cs t n1 n2 h3 => blk_far (hf2 g cs t n1 n2 (hf1 g cs t n1 n2 h3)) (p := ⟨b, 1, none⟩) n1 _⟩
  exact Lib.BuilderAt.put (T := 56) (e := 5) hB hb2 (bs' := Lib.byteCells (l ++ s.data.toList)) (by rw [Lib.byteCells_append, ← Lib.strCells_eq, List.length_append, Lib.strCells_length, hbl]; exact hown') (by decide)
def all : List ByteArray → Option (List UInt8)
  | [] => some []
  | s :: l => (lines_Bare.f s).bind fun t => (all l).bind fun r => some (t.1.data.toList ++ 10 :: r)
theorem nl (t : ByteArray) : (t ++ (⟨#[10]⟩ : ByteArray)).data.toList = t.data.toList ++ [10] := by
  rw [Go.Joins.data_append]
set_option maxHeartbeats 4000000 in
set_option maxRecDepth 100000 in
theorem all_calls (A1 : Option Addr) (c1 : Nat) (l1 : List ByteArray) (b : Nat) (w0 : World) (acc R : List UInt8) (w : World) (h : Bs b w0 w acc) (hr1 : Kd.C Kd.string w0 A1 l1.length l1) (hR : all l1 = some R) (hlim : acc.length + R.length ≤ 100000000000000) (hl1 : l1.length ≤ 1000000000000000) :
    Calls Tryd.prog 38 #[.slice A1 l1.length c1, .pointer (some ⟨b, 0, none⟩)] w fun e w' => e = .returned (.tuple #[]) ∧ Bs b w0 w' (acc ++ R) ∧ Fb b w w' := by
  have HX := Aside0.mk h
  have HR1 := Aside0.mk hr1
  have HF := Aside0.mk (show Fb b w w from fun _ _ _ _ _ h => h)
  have HL := Aside0.mk hlim
  have HLN := Aside0.mk hl1
  have HH := Aside0.mk hR
  clear h hr1 hR hlim hl1
  go_enter Tryd.func38, Tryd.ntmps38
  go_wp2
  go_loopg [9] l1.length (fun q v9 w' => ∃ (z : Int) (ac R1 : List UInt8), v9 = .int .i64 z ∧ 0 ≤ z ∧ z ≤ 1000000000000000 ∧ Aside0 (z + (q : Int) = l1.length ∧ ac ++ R1 = acc ++ R) ∧ Aside0 (all (l1.drop z.toNat) = some R1) ∧ Aside0 (Bs b w0 w' ac) ∧ Aside0 (Fb b w w'))
  case atStart => exact ⟨0, acc, R, rfl, by omega, by omega, ⟨by omega, rfl⟩, ⟨by rw [show (0 : Int).toNat = 0 from rfl, List.drop_zero]; exact HH.out⟩, HX, HF⟩
  case round =>
    clear HH HX HF
    obtain ⟨z, ac, R1, rfl, hz1, hz2, HZ, HH, HX, HF⟩ := hrel
    have HAL : Aside0 (ac.length + R1.length ≤ 100000000000000) := ⟨by have h := congrArg List.length HZ.out.2; rw [List.length_append, List.length_append] at h; have := HL.out; omega⟩
    cases gk with
    | zero =>
      have hzl : z = (l1.length : Int) := by have := HZ.out.1; omega
      subst hzl
      have hp : ((l1.length : Int) < (l1.length : Int)) = False := eq_false (Int.lt_irrefl _)
      have h := HH.out
      rw [Int.toNat_natCast, List.drop_length, all] at h
      injection h with h
      subst h
      have h2 := HZ.out.2
      rw [List.append_nil] at h2
      have H2 := Aside0.mk h2
      clear h2
      go_wp2
      go_end0
      rw [← H2.out]
      exact ⟨rfl, HX.out, HF.out⟩
    | succ q1 =>
      have hzl : decide (z < (l1.length : Int)) = true := decide_eq_true (by have := HZ.out.1; omega)
      have hz3 := of_decide_eq_true hzl
      obtain ⟨ad0, ea0, hx0⟩ := Kd.at_string HR1.out z hz1 hz3
      cases ea0
      have hxs := (HX.out.b_.cell (World.block_lt_of_cell? w0 _ hx0)).trans hx0
      have p1 := eq_true hz1
      have p2 := eq_true hz3
      have hd : l1.drop z.toNat = rdOf ByteArray.empty l1 z :: l1.drop (z + 1).toNat := by
        rw [show (z + 1).toNat = z.toNat + 1 by omega, List.drop_eq_getElem_cons (by omega)]
        simp [rdOf, List.getD_eq_getElem?_getD, show z.toNat < l1.length by omega]
      have hw : wrap64 (z + 1) = z + 1 := by unfold wrap64; omega
      have HW := Aside0.mk hw
      obtain ⟨s, hs⟩ : ∃ s, rdOf ByteArray.empty l1 z = s := ⟨_, rfl⟩
      have hh := HH.out
      rw [hd, hs, all] at hh
      rw [hs] at hxs
      obtain ⟨⟨t1, t2⟩, ht, hh⟩ := Option.bind_eq_some_iff.mp hh
      obtain ⟨r1, hr, hh⟩ := Option.bind_eq_some_iff.mp hh
      injection hh with hh
      dsimp only at hh
      have HT := Aside0.mk ht
      have HR := Aside0.mk hr
      have HE := Aside0.mk hh
      have HTS : Aside0 (t1.size + 1 + r1.length = R1.length) := ⟨by rw [← hh, List.length_append, List.length_cons, ← Lib.size_eq]; omega⟩
      have q1_ : t1.size + 1 ≤ 9223372036854775807 := by have := HTS.out; have := HAL.out; omega
      have q2_ := eq_true q1_
      have q3_ : decide (t1.size + 1 ≤ 9223372036854775807) = true := decide_eq_true q1_
      have q4_ : (9223372036854775807 < t1.size + 1) = False := eq_false (Nat.not_lt.2 q1_)
      have HLIM : Aside0 (ac.length + (t1 ++ (⟨#[10]⟩ : ByteArray)).size ≤ 140737488355328) := ⟨by rw [Lib.size_eq, nl, List.length_append, List.length_singleton, ← Lib.size_eq]; have := HTS.out; have := HAL.out; omega⟩
      clear hd hw hx0 hz3 HH hs ht hr hh q1_
      go_upto_region 4 with (go_at_call 28; (with_reducible refine (lines_Bare.calls s t1 t2 _ HT.out).mono ?_); rintro e w5 ⟨rfl, hd5⟩; have n1_ := Aside0.mk (HX.out.below hd5.below); have n2_ := Aside0.mk (HF.out.trans (show Fb b _ w5 from fun g cs t _ _ h3 => blk_below h3 hd5.below)); clear HX HF hd5 hxs; have HX := n1_; have HF := n2_; clear n1_ n2_)
      go_wp2_with (go_at_call 20; refine (write b w0 ac (t1 ++ (⟨#[10]⟩ : ByteArray)) _ HX.out HLIM.out).mono ?_; rintro e w6 ⟨rfl, hx6, hf6⟩; have n1_ := Aside0.mk hx6; have n2_ := Aside0.mk (HF.out.trans hf6); clear HX HF hx6 hf6; have HX := n1_; have HF := n2_; clear n1_ n2_)
      go_roundg q1
      case measure => omega
      case rel => exact ⟨z + 1, ac ++ (t1 ++ (⟨#[10]⟩ : ByteArray)).data.toList, r1, by go_num, by omega, by have := HZ.out.1; have := HLN.out; omega, ⟨by have := HZ.out.1; omega, by rw [nl, List.append_assoc, List.append_assoc, List.singleton_append, HE.out]; exact HZ.out.2⟩, HR, HX, HF⟩
end If
namespace If
def cut (l : List ByteArray) (a b : Int) : List ByteArray := (l.take b.toNat).drop a.toNat
def piece (x0 x1 x2 x3 x4 : ByteArray) (c : S72) (r2 r3 : List UInt8) : List UInt8 :=
  if c.f3 = 0 then x1.data.toList ++ r2 ++ x4.data.toList else if c.f1 = 0 then x0.data.toList ++ r3 ++ x3.data.toList else x1.data.toList ++ r2 ++ x2.data.toList ++ r3 ++ x3.data.toList
def okc (n m at_ : Int) (c : S72) : Prop := 0 ≤ at_ ∧ at_ ≤ c.f0 ∧ 0 ≤ c.f1 ∧ c.f0 + c.f1 ≤ n ∧ 0 ≤ c.f2 ∧ 0 ≤ c.f3 ∧ c.f2 + c.f3 ≤ m
instance (n m at_ : Int) (c : S72) : Decidable (okc n m at_ c) := by unfold okc; exact inferInstance
def go (a b : List ByteArray) (x0 x1 x2 x3 x4 : ByteArray) : List S72 → Int → List UInt8 → Option (Int × List UInt8)
  | [], at_, acc => some (at_, acc)
  | c :: l, at_, acc =>
    if okc (a.length : Int) (b.length : Int) at_ c then
      (all (cut a at_ c.f0)).bind fun r1 => (all (cut a c.f0 (c.f0 + c.f1))).bind fun r2 => (all (cut b c.f2 (c.f2 + c.f3))).bind fun r3 =>
        if acc.length + r1.length + r2.length + r3.length + x0.size + x1.size + x2.size + x3.size + x4.size ≤ 100000000000000 then go a b x0 x1 x2 x3 x4 l (c.f0 + c.f1) (acc ++ r1 ++ piece x0 x1 x2 x3 x4 c r2 r3) else none
    else none
end If
def views_Ifdef.f (k : Nat) (l0 : List S72) (l1 l2 : List ByteArray) (a3 : ByteArray) : Option (ByteArray × Int) :=
  if l1.length ≤ 1000000000000 ∧ l2.length ≤ 1000000000000 ∧ l0.length ≤ 1000000000000 then
    (edits_Check.f k l0 (l1.length : Int) (l2.length : Int)).bind fun e => if e = 0 then (views_named.f a3).bind fun t => if t = true then (views_of.f a3).bind fun x =>
      (If.go l1 l2 x.1 x.2.1 x.2.2.1 x.2.2.2.1 x.2.2.2.2 l0 0 []).bind fun r => (If.all (l1.drop r.1.toNat)).bind fun r4 => if 0 ≤ r.1 ∧ r.1 ≤ (l1.length : Int) ∧ r.2.length + r4.length ≤ 100000000000000 then some (⟨(r.2 ++ r4).toArray⟩, 0) else none
      else some (⟨#[]⟩, 253) else some (⟨#[]⟩, e)
  else none
set_option maxHeartbeats 8000000 in
set_option maxRecDepth 100000 in
theorem views_Ifdef.calls (k : Nat) (A0 : Option Addr) (c0 : Nat) (l0 : List S72) (A1 : Option Addr) (c1 : Nat) (l1 : List ByteArray) (A2 : Option Addr) (c2 : Nat) (l2 : List ByteArray) (a3 : ByteArray) (r1 : ByteArray) (r2 : Int) (w : World) (hr0 : Kd.C k72 w A0 l0.length l0) (hc0 : l0.length ≤ c0) (hr1 : Kd.C Kd.string w A1 l1.length l1) (hc1 : l1.length ≤ c1) (hr2 : Kd.C Kd.string w A2 l2.length l2) (hc2 : l2.length ≤ c2) (h : views_Ifdef.f k l0 l1 l2 a3 = some (r1, r2)) :
    Calls Tryd.prog 16 #[.slice A0 l0.length c0, .slice A1 l1.length c1, .slice A2 l2.length c2, .string a3] w fun e w' => e = .returned (.tuple #[.string r1, .int .i64 r2]) ∧ Below w.heap.size w w' := by
  unfold views_Ifdef.f at h
  by_cases hg : l1.length ≤ 1000000000000 ∧ l2.length ≤ 1000000000000 ∧ l0.length ≤ 1000000000000
  case neg => rw [if_neg hg] at h; cases h
  rw [if_pos hg] at h
  obtain ⟨er, he, h⟩ := Option.bind_eq_some_iff.mp h
  have HG := Aside0.mk hg
  have HE := Aside0.mk he
  have HR0 := Aside0.mk hr0
  have HC0 := Aside0.mk hc0
  have HR1 := Aside0.mk hr1
  have HC1 := Aside0.mk hc1
  have HR2 := Aside0.mk hr2
  have HC2 := Aside0.mk hc2
  have HB := Aside0.mk (Below.refl w.heap.size w)
  clear hr0 hc0 hr1 hc1 hr2 hc2 he hg
  by_cases he0 : er = 0
  case neg =>
    rw [if_neg he0] at h
    injection h with h
    injection h with h1 h2
    subst h1 h2
    have f1 : (er != 0) = true := bne_iff_ne.mpr he0
    clear he0
    go_enter Tryd.func16, Tryd.ntmps16
    go_wp2_with (go_at_call 26; (with_reducible refine (edits_Check.calls k _ _ l0 (l1.length : Int) (l2.length : Int) _ w HR0.out HC0.out HE.out).mono ?_); rintro e w1 ⟨rfl, hb⟩; have n1_ := Aside0.mk (below_step HB.out hb); clear HB hb; have HB := n1_; clear n1_)
    go_ret2
    exact ⟨rfl, HB.out⟩
  rw [if_pos he0] at h
  subst he0
  obtain ⟨t, hnm, h⟩ := Option.bind_eq_some_iff.mp h
  have HNM := Aside0.mk hnm
  clear hnm
  by_cases ht : t = true
  case neg =>
    rw [if_neg ht] at h
    injection h with h
    injection h with h1 h2
    subst h1 h2
    obtain rfl : t = false := by simpa using ht
    clear ht
    go_enter Tryd.func16, Tryd.ntmps16
    go_wp2_with (first | (go_at_call 26; (with_reducible refine (edits_Check.calls k _ _ l0 (l1.length : Int) (l2.length : Int) _ w HR0.out HC0.out HE.out).mono ?_); rintro e w1 ⟨rfl, hb⟩; have n1_ := Aside0.mk (below_step HB.out hb); clear HB hb; have HB := n1_; clear n1_) | (go_at_call 18; (with_reducible refine (views_named.calls a3 _ w1 HNM.out).mono ?_); rintro e w2 ⟨rfl, hb⟩; have n1_ := Aside0.mk (below_step HB.out hb); clear HB hb; have HB := n1_; clear n1_))
    go_ret2
    exact ⟨rfl, HB.out⟩
  rw [if_pos ht] at h
  subst ht
  obtain ⟨⟨x0, x1, x2, x3, x4⟩, hof, h⟩ := Option.bind_eq_some_iff.mp h
  obtain ⟨⟨at9, acc9⟩, hgo, h⟩ := Option.bind_eq_some_iff.mp h
  obtain ⟨r4, hr4, h⟩ := Option.bind_eq_some_iff.mp h
  dsimp only at hgo hr4 h
  by_cases hz : 0 ≤ at9 ∧ at9 ≤ (l1.length : Int) ∧ acc9.length + r4.length ≤ 100000000000000
  case neg => rw [if_neg hz] at h; cases h
  rw [if_pos hz] at h
  injection h with h
  injection h with h1 h2
  subst h1 h2
  have HOF := Aside0.mk hof
  have HGO := Aside0.mk hgo
  have HR4 := Aside0.mk hr4
  have HZ9 := Aside0.mk hz
  clear hof hgo hr4 hz
  go_enter Tryd.func16, Tryd.ntmps16
  go_upto_region 6 with (first | (go_at_call 26; (with_reducible refine (edits_Check.calls k _ _ l0 (l1.length : Int) (l2.length : Int) _ w HR0.out HC0.out HE.out).mono ?_); rintro e w1 ⟨rfl, hb⟩; have n1_ := Aside0.mk (below_step HB.out hb); clear HB hb; have HB := n1_; clear n1_) | (go_at_call 18; (with_reducible refine (views_named.calls a3 _ w1 HNM.out).mono ?_); rintro e w2 ⟨rfl, hb⟩; have n1_ := Aside0.mk (below_step HB.out hb); clear HB hb; have HB := n1_; clear n1_))
  go_upto_region 7 with ((with_reducible refine gate_dst (N := 11) rfl ?_); refine box_event ?hg (N := 11) ?hd (cs := #[.pointer none, .slice none 0 0]) (t := 56) ?hr ?_; (case hd => rfl); (case hg => rfl); (case hr => first | (go_simp; done) | (go_simp; rfl)); intro gb hg w3 hbox hb; have GB := Aside0.mk (by rw [hg]; exact HB.out.size : w.heap.size ≤ gb); have n1_ := Aside0.mk (below_step HB.out hb); clear HB; have HI : Aside0 (If.Bs gb w w3 []) := ⟨⟨.inl ⟨GB.out, .slice none 0 0, hbox, Go.World.ownsRow_nil _ _ _ _, by simp [Value.ownBlock]⟩, n1_.out⟩⟩; clear n1_ hbox hg hb)
  go_upto_region 9 with (first | (go_at_call 19; (with_reducible refine (views_of.calls a3 x0 x1 x2 x3 x4 w3 HOF.out).mono ?_); rintro e w4 ⟨rfl, hb⟩; have n1_ := Aside0.mk (HI.out.below hb); clear HI hb; have HI := n1_; clear n1_) | ((with_reducible refine gate_dst (N := 13) rfl ?_); refine box_event ?hg (N := 13) ?hd (cs := #[.string ⟨#[]⟩, .string ⟨#[]⟩, .string ⟨#[]⟩, .string ⟨#[]⟩, .string ⟨#[]⟩]) (t := 51) ?hr ?_; (case hd => rfl); (case hg => rfl); (case hr => first | (go_simp; done) | (go_simp; rfl)); intro gx hg w5 hbox hb; have GX := Aside0.mk (by rw [hg]; exact HI.out.b_.size : w.heap.size ≤ gx); have NX := Aside0.mk (show gb ≠ gx by rw [hg]; obtain ⟨cs_, hc_⟩ := If.is_cell HI.out.i; have := blk_lt hc_; omega); have n1_ := Aside0.mk (HI.out.below hb); clear HI; have HI := n1_; clear n1_; have BX := Aside0.mk hbox; clear hbox hg hb; have o0 := (blk_cell BX.out 0).trans (show _ = some (Value.string ⟨#[]⟩) from rfl); have o1 := (blk_cell BX.out 1).trans (show _ = some (Value.string ⟨#[]⟩) from rfl); have o2 := (blk_cell BX.out 2).trans (show _ = some (Value.string ⟨#[]⟩) from rfl); have o3 := (blk_cell BX.out 3).trans (show _ = some (Value.string ⟨#[]⟩) from rfl); have o4 := (blk_cell BX.out 4).trans (show _ = some (Value.string ⟨#[]⟩) from rfl); have k0 := blk_frozen BX.out 0; have k1 := blk_frozen BX.out 1; have k2 := blk_frozen BX.out 2; have k3 := blk_frozen BX.out 3; have k4 := blk_frozen BX.out 4) | ((with_reducible refine gate_store (t := 51) (p := 13) rfl ?_); refine store_event (t := 51) (p := 13) (v := ?vo_sx) (w1 := (((((w5.setCell ⟨gx, 0, none⟩ (.string x0)).setCell ⟨gx, 1, none⟩ (.string x1)).setCell ⟨gx, 2, none⟩ (.string x2)).setCell ⟨gx, 3, none⟩ (.string x3)).setCell ⟨gx, 4, none⟩ (.string x4))) ?hg ?ho ?hn ?hr ?_; (case ho => rfl); (case hg => rfl); (case hn => rfl); (case hr => first | (go_simp; done) | (go_simp; rfl)); intro w6 hw; have n0_ : Aside0 (w6.heap[gx]? = some (.cells #[.string x0, .string x1, .string x2, .string x3, .string x4] 51 (0, 0))) := ⟨by rw [hw]; exact blk_put (blk_put (blk_put (blk_put (blk_put (BX.out) 0 _ rfl) 1 _ rfl) 2 _ rfl) 3 _ rfl) 4 _ rfl⟩; have n1_ : Aside0 (If.Bs gb w w6 []) := ⟨by rw [hw]; exact If.Bs.fars NX.out (by decide) GX.out [(0, .string x0), (1, .string x1), (2, .string x2), (3, .string x3), (4, .string x4)] HI.out BX.out⟩; clear HI BX hw o0 o1 o2 o3 o4 k0 k1 k2 k3 k4; have BX := n0_; have HI := n1_; clear n0_ n1_))
  go_wp2
  go_loopg [14, 34] l0.length (fun q v14 v34 w' => ∃ (z at_ : Int) (acc : List UInt8), v14 = .int .i64 at_ ∧ v34 = .int .i64 z ∧ 0 ≤ z ∧ z ≤ 1000000000000 ∧ Aside0 (z + (q : Int) = l0.length) ∧ Aside0 (If.go l1 l2 x0 x1 x2 x3 x4 (l0.drop z.toNat) at_ acc = some (at9, acc9)) ∧ Aside0 (If.Bs gb w w' acc) ∧ Aside0 (w'.heap[gx]? = some (.cells #[.string x0, .string x1, .string x2, .string x3, .string x4] 51 (0, 0))))
  case atStart => exact ⟨0, 0, [], rfl, rfl, by omega, by omega, ⟨by omega⟩, ⟨by rw [show (0 : Int).toNat = 0 from rfl, List.drop_zero]; exact HGO.out⟩, HI, BX⟩
  case round =>
    clear HGO HI BX
    obtain ⟨z, at_, acc, rfl, rfl, hz1, hz2, HZ, HGO, HI, BX⟩ := hrel
    have hinfo : ∃ i, Tryd.prog.info? 9 = some i ∧ i.size = 1 := ⟨_, rfl, rfl⟩
    cases gk with
    | zero =>
      have hzl : z = (l0.length : Int) := by have := HZ.out; omega
      subst hzl
      have hp : ((l0.length : Int) < (l0.length : Int)) = False := eq_false (Int.lt_irrefl _)
      have h := HGO.out
      rw [Int.toNat_natCast, List.drop_length, If.go] at h
      injection h with h
      injection h with h1 h2
      subst h1 h2
      obtain ⟨qi, hqi, hqs⟩ := hinfo
      obtain ⟨B4, hcut4, hA4, hD4⟩ := print_drop_of (P := Tryd.prog) Value.string ByteArray.empty 34 9 .i64 Tryd.underlying34 hqi hqs A1 c1 l1 at_ HZ9.out.1 HZ9.out.2.1 HC1.out
      obtain ⟨Y4, hY4⟩ : ∃ Y, l1.drop at_.toNat = Y := ⟨_, rfl⟩
      have hR4 := HR4.out
      have hl4 : Y4.length ≤ 1000000000000 := by rw [← hY4, List.length_drop]; have := HG.out; omega
      rw [hY4] at hcut4 hA4 hD4 hR4
      have HCR4 : Aside0 (Kd.C Kd.string w B4 Y4.length Y4) := ⟨Kd.C_of_reads (h1 := fun _ => rfl) (hA4 _ (Kd.reads_of_C HR1.out))⟩
      have HALL4 := Aside0.mk hR4
      have HLEN4 := Aside0.mk (show Y4.length ≤ 1000000000000000 by omega)
      have HL4 := Aside0.mk HZ9.out.2.2
      clear hA4 hD4 hqi hqs hY4 hR4 hl4 HGO
      go_upto_region 28 with (go_at_call 38; (with_reducible refine (If.all_calls B4 _ Y4 gb w acc r4 _ HI.out HCR4.out HALL4.out HL4.out HLEN4.out).mono ?_); rintro e w8 ⟨rfl, hx, hf⟩; have n1_ := Aside0.mk hx; clear HI hx hf; have HI := n1_; clear n1_)
      go_wp2_with (go_at_call 21; (with_reducible refine (Tryd.Builder_String_any w.heap.size gb (acc ++ r4) _ HI.out.i HI.out.b_.size).mono ?_); rintro e w9 ⟨rfl, hb⟩; have HEND := Aside0.mk (HI.out.b_.trans hb); clear hb)
      go_ret2
      exact ⟨rfl, HEND.out⟩
    | succ q1 =>
      have hzl : decide (z < (l0.length : Int)) = true := decide_eq_true (by have := HZ.out; omega)
      have hz3 := of_decide_eq_true hzl
      obtain ⟨ad1, ea1, y0, y1, y2, y3⟩ := at_T72 HR0.out z hz1 hz3
      cases ea1
      replace y0 := (HI.out.b_.cell (World.block_lt_of_cell? w _ y0)).trans y0
      replace y1 := (HI.out.b_.cell (World.block_lt_of_cell? w _ y1)).trans y1
      replace y2 := (HI.out.b_.cell (World.block_lt_of_cell? w _ y2)).trans y2
      replace y3 := (HI.out.b_.cell (World.block_lt_of_cell? w _ y3)).trans y3
      have p1 := eq_true hz1
      have p2 := eq_true hz3
      have hw : wrap64 (z + 1) = z + 1 := by unfold wrap64; omega
      have HW := Aside0.mk hw
      have hd : l0.drop z.toNat = rd_T72 l0 z :: l0.drop (z + 1).toNat := by
        rw [show (z + 1).toNat = z.toNat + 1 by omega, List.drop_eq_getElem_cons (by omega)]
        simp [rd_T72, List.getD_eq_getElem?_getD, show z.toNat < l0.length by omega]
      obtain ⟨ch, hch⟩ : ∃ ch, rd_T72 l0 z = ch := ⟨_, rfl⟩
      rw [hch] at y0 y1 y2 y3 hd
      have hgo := HGO.out
      rw [hd, If.go] at hgo
      by_cases hk : If.okc (l1.length : Int) (l2.length : Int) at_ ch
      case neg => rw [if_neg hk] at hgo; cases hgo
      rw [if_pos hk] at hgo
      obtain ⟨r1, h1, hgo⟩ := Option.bind_eq_some_iff.mp hgo
      obtain ⟨r2, h2, hgo⟩ := Option.bind_eq_some_iff.mp hgo
      obtain ⟨r3, h3, hgo⟩ := Option.bind_eq_some_iff.mp hgo
      by_cases hsz : acc.length + r1.length + r2.length + r3.length + x0.size + x1.size + x2.size + x3.size + x4.size ≤ 100000000000000
      case neg => rw [if_neg hsz] at hgo; cases hgo
      rw [if_pos hsz] at hgo
      have HGO2 := Aside0.mk hgo
      have HSZ := Aside0.mk hsz
      obtain ⟨k0, k1, k2, k3, k4, k5, k6⟩ := hk
      have HK := Aside0.mk (show 0 ≤ at_ ∧ at_ ≤ ch.f0 ∧ 0 ≤ ch.f1 ∧ ch.f0 + ch.f1 ≤ (l1.length : Int) ∧ 0 ≤ ch.f2 ∧ 0 ≤ ch.f3 ∧ ch.f2 + ch.f3 ≤ (l2.length : Int) from ⟨k0, k1, k2, k3, k4, k5, k6⟩)
      have hwa : wrap64 (ch.f0 + ch.f1) = ch.f0 + ch.f1 := by have := HG.out; unfold wrap64; omega
      have hwb : wrap64 (ch.f2 + ch.f3) = ch.f2 + ch.f3 := by have := HG.out; unfold wrap64; omega
      obtain ⟨qi, hqi, hqs⟩ := hinfo
      obtain ⟨B1, hcut1, hA1, hD1⟩ := print_mid_of (P := Tryd.prog) Value.string ByteArray.empty 34 9 .i64 .i64 Tryd.underlying34 hqi hqs A1 c1 l1 at_ ch.f0 k0 k1 (by omega) HC1.out
      obtain ⟨B2, hcut2, hA2, hD2⟩ := print_mid_of (P := Tryd.prog) Value.string ByteArray.empty 34 9 .i64 .i64 Tryd.underlying34 hqi hqs A1 c1 l1 ch.f0 (ch.f0 + ch.f1) (by omega) (by omega) k3 HC1.out
      obtain ⟨B3, hcut3, hA3, hD3⟩ := print_mid_of (P := Tryd.prog) Value.string ByteArray.empty 34 9 .i64 .i64 Tryd.underlying34 hqi hqs A2 c2 l2 ch.f2 (ch.f2 + ch.f3) k4 (by omega) k6 HC2.out
      unfold If.cut at h1 h2 h3
      obtain ⟨Y1, hY1⟩ : ∃ Y, ((l1.take ch.f0.toNat).drop at_.toNat) = Y := ⟨_, rfl⟩
      obtain ⟨Y2, hY2⟩ : ∃ Y, ((l1.take (ch.f0 + ch.f1).toNat).drop ch.f0.toNat) = Y := ⟨_, rfl⟩
      obtain ⟨Y3, hY3⟩ : ∃ Y, ((l2.take (ch.f2 + ch.f3).toNat).drop ch.f2.toNat) = Y := ⟨_, rfl⟩
      have HY1 : Aside0 (Y1.length ≤ 1000000000000000) := ⟨by rw [← hY1, List.length_drop, List.length_take]; have := HG.out; omega⟩
      have HY2 : Aside0 (Y2.length ≤ 1000000000000000) := ⟨by rw [← hY2, List.length_drop, List.length_take]; have := HG.out; omega⟩
      have HY3 : Aside0 (Y3.length ≤ 1000000000000000) := ⟨by rw [← hY3, List.length_drop, List.length_take]; have := HG.out; omega⟩
      rw [hY1] at hcut1 hA1 h1
      rw [hY2] at hcut2 hA2 h2
      rw [hY3] at hcut3 hA3 h3
      have HE1 : Aside0 (Kd.C Kd.string w B1 Y1.length Y1) := ⟨Kd.C_of_reads (h1 := fun _ => rfl) (hA1 _ (Kd.reads_of_C HR1.out))⟩
      have HE2 : Aside0 (Kd.C Kd.string w B2 Y2.length Y2) := ⟨Kd.C_of_reads (h1 := fun _ => rfl) (hA2 _ (Kd.reads_of_C HR1.out))⟩
      have HE3 : Aside0 (Kd.C Kd.string w B3 Y3.length Y3) := ⟨Kd.C_of_reads (h1 := fun _ => rfl) (hA3 _ (Kd.reads_of_C HR2.out))⟩
      have HA1 := Aside0.mk h1
      have HA2 := Aside0.mk h2
      have HA3 := Aside0.mk h3
      clear hd hw hz3 hch HGO hgo hsz k0 k1 k2 k3 k4 k5 k6 h1 h2 h3 hA1 hA2 hA3 hD1 hD2 hD3 hqi hqs hY1 hY2 hY3
      go_upto_region 13 with (first | ((with_reducible refine gate_dst (N := 16) rfl ?_); refine box_event ?hg (N := 16) ?hd (cs := #[.int .i64 0, .int .i64 0, .int .i64 0, .int .i64 0]) (t := 72) ?hr ?_; (case hd => rfl); (case hg => rfl); (case hr => first | (go_simp; done) | (go_simp; rfl)); intro gc hg w10 hbox hb; have GC := Aside0.mk (by rw [hg]; exact HI.out.b_.size : w.heap.size ≤ gc); have NC := Aside0.mk (show gb ≠ gc by rw [hg]; obtain ⟨cs_, hc_⟩ := If.is_cell HI.out.i; have := blk_lt hc_; omega); have NXC := Aside0.mk (show gx ≠ gc by rw [hg]; have := blk_lt BX.out; omega); have n1_ := Aside0.mk (HI.out.below hb); have n2_ := Aside0.mk (blk_below BX.out hb); replace y0 := (hb.cell (World.block_lt_of_cell? _ _ y0)).trans y0; replace y1 := (hb.cell (World.block_lt_of_cell? _ _ y1)).trans y1; replace y2 := (hb.cell (World.block_lt_of_cell? _ _ y2)).trans y2; replace y3 := (hb.cell (World.block_lt_of_cell? _ _ y3)).trans y3; clear HI BX; have HI := n1_; have BX := n2_; clear n1_ n2_; have BC := Aside0.mk hbox; clear hbox hg hb; have o0 := (blk_cell BC.out 0).trans (show _ = some (Value.int .i64 0) from rfl); have o1 := (blk_cell BC.out 1).trans (show _ = some (Value.int .i64 0) from rfl); have o2 := (blk_cell BC.out 2).trans (show _ = some (Value.int .i64 0) from rfl); have o3 := (blk_cell BC.out 3).trans (show _ = some (Value.int .i64 0) from rfl); have k0 := blk_frozen BC.out 0; have k1 := blk_frozen BC.out 1; have k2 := blk_frozen BC.out 2; have k3 := blk_frozen BC.out 3) | ((with_reducible refine gate_store (t := 72) (p := 16) rfl ?_); refine store_event (t := 72) (p := 16) (v := ?vo_sc) (w1 := ((((w10.setCell ⟨gc, 0, none⟩ (.int .i64 ch.f0)).setCell ⟨gc, 1, none⟩ (.int .i64 ch.f1)).setCell ⟨gc, 2, none⟩ (.int .i64 ch.f2)).setCell ⟨gc, 3, none⟩ (.int .i64 ch.f3))) ?hg ?ho ?hn ?hr ?_; (case ho => rfl); (case hg => rfl); (case hn => rfl); (case hr => first | (go_simp; done) | (go_simp; rfl)); intro w11 hw; have n0_ : Aside0 (w11.heap[gc]? = some (.cells #[.int .i64 ch.f0, .int .i64 ch.f1, .int .i64 ch.f2, .int .i64 ch.f3] 72 (0, 0))) := ⟨by rw [hw]; exact blk_put (blk_put (blk_put (blk_put (BC.out) 0 _ rfl) 1 _ rfl) 2 _ rfl) 3 _ rfl⟩; have n1_ : Aside0 (If.Bs gb w w11 acc) := ⟨by rw [hw]; exact If.Bs.fars NC.out (by decide) GC.out [(0, .int .i64 ch.f0), (1, .int .i64 ch.f1), (2, .int .i64 ch.f2), (3, .int .i64 ch.f3)] HI.out BC.out⟩; have n2_ : Aside0 (w11.heap[gx]? = some (.cells #[.string x0, .string x1, .string x2, .string x3, .string x4] 51 (0, 0))) := ⟨by rw [hw]; exact blk_far (blk_far (blk_far (blk_far BX.out NXC.out _) NXC.out _) NXC.out _) NXC.out _⟩; clear HI BX BC hw y0 y1 y2 y3 o0 o1 o2 o3 k0 k1 k2 k3; have BC := n0_; have HI := n1_; have BX := n2_; clear n0_ n1_ n2_))
      have x_0 := (blk_cell BX.out 0).trans (show _ = some (Value.string x0) from rfl)
      have x_1 := (blk_cell BX.out 1).trans (show _ = some (Value.string x1) from rfl)
      have x_2 := (blk_cell BX.out 2).trans (show _ = some (Value.string x2) from rfl)
      have x_3 := (blk_cell BX.out 3).trans (show _ = some (Value.string x3) from rfl)
      have x_4 := (blk_cell BX.out 4).trans (show _ = some (Value.string x4) from rfl)
      have c_0 := (blk_cell BC.out 0).trans (show _ = some (Value.int .i64 ch.f0) from rfl)
      have c_1 := (blk_cell BC.out 1).trans (show _ = some (Value.int .i64 ch.f1) from rfl)
      have c_2 := (blk_cell BC.out 2).trans (show _ = some (Value.int .i64 ch.f2) from rfl)
      have c_3 := (blk_cell BC.out 3).trans (show _ = some (Value.int .i64 ch.f3) from rfl)
      go_upto_region 14 with (go_at_call 38; (with_reducible refine (If.all_calls B1 _ Y1 gb w (acc) r1 _ HI.out HE1.out HA1.out (by have := HSZ.out; (try simp only [List.length_append, ← Lib.size_eq]); omega) HY1.out).mono ?_); rintro e w12 ⟨rfl, hx, hf⟩; have n1_ := Aside0.mk hx; have n2_ := Aside0.mk (hf gx _ _ (Ne.symm NX.out) (by decide) BX.out); have n3_ := Aside0.mk (hf gc _ _ (Ne.symm NC.out) (by decide) BC.out); clear HI BX BC hx hf; have HI := n1_; have BX := n2_; have BC := n3_; clear n1_ n2_ n3_; (try clear x_0 x_1 x_2 x_3 x_4 c_0 c_1 c_2 c_3); have x_0 := (blk_cell BX.out 0).trans (show _ = some (Value.string x0) from rfl); have x_1 := (blk_cell BX.out 1).trans (show _ = some (Value.string x1) from rfl); have x_2 := (blk_cell BX.out 2).trans (show _ = some (Value.string x2) from rfl); have x_3 := (blk_cell BX.out 3).trans (show _ = some (Value.string x3) from rfl); have x_4 := (blk_cell BX.out 4).trans (show _ = some (Value.string x4) from rfl); have c_0 := (blk_cell BC.out 0).trans (show _ = some (Value.int .i64 ch.f0) from rfl); have c_1 := (blk_cell BC.out 1).trans (show _ = some (Value.int .i64 ch.f1) from rfl); have c_2 := (blk_cell BC.out 2).trans (show _ = some (Value.int .i64 ch.f2) from rfl); have c_3 := (blk_cell BC.out 3).trans (show _ = some (Value.int .i64 ch.f3) from rfl))
      by_cases e3 : ch.f3 = 0
      · have f3 : (ch.f3 == 0) = true := beq_iff_eq.mpr e3
        have HGF : Aside0 (If.go l1 l2 x0 x1 x2 x3 x4 (l0.drop (z + 1).toNat) (ch.f0 + ch.f1) (acc ++ r1 ++ x1.data.toList ++ r2 ++ x4.data.toList) = some (at9, acc9)) := ⟨by have h := HGO2.out; unfold If.piece at h; rw [if_pos e3] at h; simp only [← List.append_assoc] at h; exact h⟩
        clear e3 HGO2
        go_upto_region 20 with (go_at_call 20; (with_reducible refine (If.write gb w (acc ++ r1) x1 _ HI.out (by have := HSZ.out; (try simp only [List.length_append, ← Lib.size_eq]); omega)).mono ?_); rintro e w13 ⟨rfl, hx, hf⟩; have n1_ := Aside0.mk hx; have n2_ := Aside0.mk (hf gx _ _ (Ne.symm NX.out) (by decide) BX.out); have n3_ := Aside0.mk (hf gc _ _ (Ne.symm NC.out) (by decide) BC.out); clear HI BX BC hx hf; have HI := n1_; have BX := n2_; have BC := n3_; clear n1_ n2_ n3_; (try clear x_0 x_1 x_2 x_3 x_4 c_0 c_1 c_2 c_3); have x_0 := (blk_cell BX.out 0).trans (show _ = some (Value.string x0) from rfl); have x_1 := (blk_cell BX.out 1).trans (show _ = some (Value.string x1) from rfl); have x_2 := (blk_cell BX.out 2).trans (show _ = some (Value.string x2) from rfl); have x_3 := (blk_cell BX.out 3).trans (show _ = some (Value.string x3) from rfl); have x_4 := (blk_cell BX.out 4).trans (show _ = some (Value.string x4) from rfl); have c_0 := (blk_cell BC.out 0).trans (show _ = some (Value.int .i64 ch.f0) from rfl); have c_1 := (blk_cell BC.out 1).trans (show _ = some (Value.int .i64 ch.f1) from rfl); have c_2 := (blk_cell BC.out 2).trans (show _ = some (Value.int .i64 ch.f2) from rfl); have c_3 := (blk_cell BC.out 3).trans (show _ = some (Value.int .i64 ch.f3) from rfl))
        go_upto_region 21 with (go_at_call 38; (with_reducible refine (If.all_calls B2 _ Y2 gb w (acc ++ r1 ++ x1.data.toList) r2 _ HI.out HE2.out HA2.out (by have := HSZ.out; (try simp only [List.length_append, ← Lib.size_eq]); omega) HY2.out).mono ?_); rintro e w14 ⟨rfl, hx, hf⟩; have n1_ := Aside0.mk hx; have n2_ := Aside0.mk (hf gx _ _ (Ne.symm NX.out) (by decide) BX.out); have n3_ := Aside0.mk (hf gc _ _ (Ne.symm NC.out) (by decide) BC.out); clear HI BX BC hx hf; have HI := n1_; have BX := n2_; have BC := n3_; clear n1_ n2_ n3_; (try clear x_0 x_1 x_2 x_3 x_4 c_0 c_1 c_2 c_3); have x_0 := (blk_cell BX.out 0).trans (show _ = some (Value.string x0) from rfl); have x_1 := (blk_cell BX.out 1).trans (show _ = some (Value.string x1) from rfl); have x_2 := (blk_cell BX.out 2).trans (show _ = some (Value.string x2) from rfl); have x_3 := (blk_cell BX.out 3).trans (show _ = some (Value.string x3) from rfl); have x_4 := (blk_cell BX.out 4).trans (show _ = some (Value.string x4) from rfl); have c_0 := (blk_cell BC.out 0).trans (show _ = some (Value.int .i64 ch.f0) from rfl); have c_1 := (blk_cell BC.out 1).trans (show _ = some (Value.int .i64 ch.f1) from rfl); have c_2 := (blk_cell BC.out 2).trans (show _ = some (Value.int .i64 ch.f2) from rfl); have c_3 := (blk_cell BC.out 3).trans (show _ = some (Value.int .i64 ch.f3) from rfl))
        go_wp2_with (go_at_call 20; (with_reducible refine (If.write gb w (acc ++ r1 ++ x1.data.toList ++ r2) x4 _ HI.out (by have := HSZ.out; (try simp only [List.length_append, ← Lib.size_eq]); omega)).mono ?_); rintro e w15 ⟨rfl, hx, hf⟩; have n1_ := Aside0.mk hx; have n2_ := Aside0.mk (hf gx _ _ (Ne.symm NX.out) (by decide) BX.out); have n3_ := Aside0.mk (hf gc _ _ (Ne.symm NC.out) (by decide) BC.out); clear HI BX BC hx hf; have HI := n1_; have BX := n2_; have BC := n3_; clear n1_ n2_ n3_; (try clear x_0 x_1 x_2 x_3 x_4 c_0 c_1 c_2 c_3); have x_0 := (blk_cell BX.out 0).trans (show _ = some (Value.string x0) from rfl); have x_1 := (blk_cell BX.out 1).trans (show _ = some (Value.string x1) from rfl); have x_2 := (blk_cell BX.out 2).trans (show _ = some (Value.string x2) from rfl); have x_3 := (blk_cell BX.out 3).trans (show _ = some (Value.string x3) from rfl); have x_4 := (blk_cell BX.out 4).trans (show _ = some (Value.string x4) from rfl); have c_0 := (blk_cell BC.out 0).trans (show _ = some (Value.int .i64 ch.f0) from rfl); have c_1 := (blk_cell BC.out 1).trans (show _ = some (Value.int .i64 ch.f1) from rfl); have c_2 := (blk_cell BC.out 2).trans (show _ = some (Value.int .i64 ch.f2) from rfl); have c_3 := (blk_cell BC.out 3).trans (show _ = some (Value.int .i64 ch.f3) from rfl))
        go_roundg q1
        case measure => omega
        case rel => exact ⟨z + 1, ch.f0 + ch.f1, _, by go_num, by go_num, by omega, by have := HZ.out; have := HG.out; omega, ⟨by have := HZ.out; omega⟩, HGF, HI, BX⟩
      have f3 : (ch.f3 == 0) = false := beq_eq_false_iff_ne.mpr e3
      by_cases e1 : ch.f1 = 0
      · have f1 : (ch.f1 == 0) = true := beq_iff_eq.mpr e1
        have HGF : Aside0 (If.go l1 l2 x0 x1 x2 x3 x4 (l0.drop (z + 1).toNat) (ch.f0 + ch.f1) (acc ++ r1 ++ x0.data.toList ++ r3 ++ x3.data.toList) = some (at9, acc9)) := ⟨by have h := HGO2.out; unfold If.piece at h; rw [if_neg e3, if_pos e1] at h; simp only [← List.append_assoc] at h; exact h⟩
        clear e3 e1 HGO2
        go_upto_region 24 with (go_at_call 20; (with_reducible refine (If.write gb w (acc ++ r1) x0 _ HI.out (by have := HSZ.out; (try simp only [List.length_append, ← Lib.size_eq]); omega)).mono ?_); rintro e w16 ⟨rfl, hx, hf⟩; have n1_ := Aside0.mk hx; have n2_ := Aside0.mk (hf gx _ _ (Ne.symm NX.out) (by decide) BX.out); have n3_ := Aside0.mk (hf gc _ _ (Ne.symm NC.out) (by decide) BC.out); clear HI BX BC hx hf; have HI := n1_; have BX := n2_; have BC := n3_; clear n1_ n2_ n3_; (try clear x_0 x_1 x_2 x_3 x_4 c_0 c_1 c_2 c_3); have x_0 := (blk_cell BX.out 0).trans (show _ = some (Value.string x0) from rfl); have x_1 := (blk_cell BX.out 1).trans (show _ = some (Value.string x1) from rfl); have x_2 := (blk_cell BX.out 2).trans (show _ = some (Value.string x2) from rfl); have x_3 := (blk_cell BX.out 3).trans (show _ = some (Value.string x3) from rfl); have x_4 := (blk_cell BX.out 4).trans (show _ = some (Value.string x4) from rfl); have c_0 := (blk_cell BC.out 0).trans (show _ = some (Value.int .i64 ch.f0) from rfl); have c_1 := (blk_cell BC.out 1).trans (show _ = some (Value.int .i64 ch.f1) from rfl); have c_2 := (blk_cell BC.out 2).trans (show _ = some (Value.int .i64 ch.f2) from rfl); have c_3 := (blk_cell BC.out 3).trans (show _ = some (Value.int .i64 ch.f3) from rfl))
        go_upto_region 25 with (go_at_call 38; (with_reducible refine (If.all_calls B3 _ Y3 gb w (acc ++ r1 ++ x0.data.toList) r3 _ HI.out HE3.out HA3.out (by have := HSZ.out; (try simp only [List.length_append, ← Lib.size_eq]); omega) HY3.out).mono ?_); rintro e w17 ⟨rfl, hx, hf⟩; have n1_ := Aside0.mk hx; have n2_ := Aside0.mk (hf gx _ _ (Ne.symm NX.out) (by decide) BX.out); have n3_ := Aside0.mk (hf gc _ _ (Ne.symm NC.out) (by decide) BC.out); clear HI BX BC hx hf; have HI := n1_; have BX := n2_; have BC := n3_; clear n1_ n2_ n3_; (try clear x_0 x_1 x_2 x_3 x_4 c_0 c_1 c_2 c_3); have x_0 := (blk_cell BX.out 0).trans (show _ = some (Value.string x0) from rfl); have x_1 := (blk_cell BX.out 1).trans (show _ = some (Value.string x1) from rfl); have x_2 := (blk_cell BX.out 2).trans (show _ = some (Value.string x2) from rfl); have x_3 := (blk_cell BX.out 3).trans (show _ = some (Value.string x3) from rfl); have x_4 := (blk_cell BX.out 4).trans (show _ = some (Value.string x4) from rfl); have c_0 := (blk_cell BC.out 0).trans (show _ = some (Value.int .i64 ch.f0) from rfl); have c_1 := (blk_cell BC.out 1).trans (show _ = some (Value.int .i64 ch.f1) from rfl); have c_2 := (blk_cell BC.out 2).trans (show _ = some (Value.int .i64 ch.f2) from rfl); have c_3 := (blk_cell BC.out 3).trans (show _ = some (Value.int .i64 ch.f3) from rfl))
        go_wp2_with (go_at_call 20; (with_reducible refine (If.write gb w (acc ++ r1 ++ x0.data.toList ++ r3) x3 _ HI.out (by have := HSZ.out; (try simp only [List.length_append, ← Lib.size_eq]); omega)).mono ?_); rintro e w18 ⟨rfl, hx, hf⟩; have n1_ := Aside0.mk hx; have n2_ := Aside0.mk (hf gx _ _ (Ne.symm NX.out) (by decide) BX.out); have n3_ := Aside0.mk (hf gc _ _ (Ne.symm NC.out) (by decide) BC.out); clear HI BX BC hx hf; have HI := n1_; have BX := n2_; have BC := n3_; clear n1_ n2_ n3_; (try clear x_0 x_1 x_2 x_3 x_4 c_0 c_1 c_2 c_3); have x_0 := (blk_cell BX.out 0).trans (show _ = some (Value.string x0) from rfl); have x_1 := (blk_cell BX.out 1).trans (show _ = some (Value.string x1) from rfl); have x_2 := (blk_cell BX.out 2).trans (show _ = some (Value.string x2) from rfl); have x_3 := (blk_cell BX.out 3).trans (show _ = some (Value.string x3) from rfl); have x_4 := (blk_cell BX.out 4).trans (show _ = some (Value.string x4) from rfl); have c_0 := (blk_cell BC.out 0).trans (show _ = some (Value.int .i64 ch.f0) from rfl); have c_1 := (blk_cell BC.out 1).trans (show _ = some (Value.int .i64 ch.f1) from rfl); have c_2 := (blk_cell BC.out 2).trans (show _ = some (Value.int .i64 ch.f2) from rfl); have c_3 := (blk_cell BC.out 3).trans (show _ = some (Value.int .i64 ch.f3) from rfl))
        go_roundg q1
        case measure => omega
        case rel => exact ⟨z + 1, ch.f0 + ch.f1, _, by go_num, by go_num, by omega, by have := HZ.out; have := HG.out; omega, ⟨by have := HZ.out; omega⟩, HGF, HI, BX⟩
      have f1 : (ch.f1 == 0) = false := beq_eq_false_iff_ne.mpr e1
      have HGF : Aside0 (If.go l1 l2 x0 x1 x2 x3 x4 (l0.drop (z + 1).toNat) (ch.f0 + ch.f1) (acc ++ r1 ++ x1.data.toList ++ r2 ++ x2.data.toList ++ r3 ++ x3.data.toList) = some (at9, acc9)) := ⟨by have h := HGO2.out; unfold If.piece at h; rw [if_neg e3, if_neg e1] at h; simp only [← List.append_assoc] at h; exact h⟩
      clear e3 e1 HGO2
      go_upto_region 16 with (go_at_call 20; (with_reducible refine (If.write gb w (acc ++ r1) x1 _ HI.out (by have := HSZ.out; (try simp only [List.length_append, ← Lib.size_eq]); omega)).mono ?_); rintro e w19 ⟨rfl, hx, hf⟩; have n1_ := Aside0.mk hx; have n2_ := Aside0.mk (hf gx _ _ (Ne.symm NX.out) (by decide) BX.out); have n3_ := Aside0.mk (hf gc _ _ (Ne.symm NC.out) (by decide) BC.out); clear HI BX BC hx hf; have HI := n1_; have BX := n2_; have BC := n3_; clear n1_ n2_ n3_; (try clear x_0 x_1 x_2 x_3 x_4 c_0 c_1 c_2 c_3); have x_0 := (blk_cell BX.out 0).trans (show _ = some (Value.string x0) from rfl); have x_1 := (blk_cell BX.out 1).trans (show _ = some (Value.string x1) from rfl); have x_2 := (blk_cell BX.out 2).trans (show _ = some (Value.string x2) from rfl); have x_3 := (blk_cell BX.out 3).trans (show _ = some (Value.string x3) from rfl); have x_4 := (blk_cell BX.out 4).trans (show _ = some (Value.string x4) from rfl); have c_0 := (blk_cell BC.out 0).trans (show _ = some (Value.int .i64 ch.f0) from rfl); have c_1 := (blk_cell BC.out 1).trans (show _ = some (Value.int .i64 ch.f1) from rfl); have c_2 := (blk_cell BC.out 2).trans (show _ = some (Value.int .i64 ch.f2) from rfl); have c_3 := (blk_cell BC.out 3).trans (show _ = some (Value.int .i64 ch.f3) from rfl))
      go_upto_region 17 with (go_at_call 38; (with_reducible refine (If.all_calls B2 _ Y2 gb w (acc ++ r1 ++ x1.data.toList) r2 _ HI.out HE2.out HA2.out (by have := HSZ.out; (try simp only [List.length_append, ← Lib.size_eq]); omega) HY2.out).mono ?_); rintro e w20 ⟨rfl, hx, hf⟩; have n1_ := Aside0.mk hx; have n2_ := Aside0.mk (hf gx _ _ (Ne.symm NX.out) (by decide) BX.out); have n3_ := Aside0.mk (hf gc _ _ (Ne.symm NC.out) (by decide) BC.out); clear HI BX BC hx hf; have HI := n1_; have BX := n2_; have BC := n3_; clear n1_ n2_ n3_; (try clear x_0 x_1 x_2 x_3 x_4 c_0 c_1 c_2 c_3); have x_0 := (blk_cell BX.out 0).trans (show _ = some (Value.string x0) from rfl); have x_1 := (blk_cell BX.out 1).trans (show _ = some (Value.string x1) from rfl); have x_2 := (blk_cell BX.out 2).trans (show _ = some (Value.string x2) from rfl); have x_3 := (blk_cell BX.out 3).trans (show _ = some (Value.string x3) from rfl); have x_4 := (blk_cell BX.out 4).trans (show _ = some (Value.string x4) from rfl); have c_0 := (blk_cell BC.out 0).trans (show _ = some (Value.int .i64 ch.f0) from rfl); have c_1 := (blk_cell BC.out 1).trans (show _ = some (Value.int .i64 ch.f1) from rfl); have c_2 := (blk_cell BC.out 2).trans (show _ = some (Value.int .i64 ch.f2) from rfl); have c_3 := (blk_cell BC.out 3).trans (show _ = some (Value.int .i64 ch.f3) from rfl))
      go_upto_region 24 with (go_at_call 20; (with_reducible refine (If.write gb w (acc ++ r1 ++ x1.data.toList ++ r2) x2 _ HI.out (by have := HSZ.out; (try simp only [List.length_append, ← Lib.size_eq]); omega)).mono ?_); rintro e w21 ⟨rfl, hx, hf⟩; have n1_ := Aside0.mk hx; have n2_ := Aside0.mk (hf gx _ _ (Ne.symm NX.out) (by decide) BX.out); have n3_ := Aside0.mk (hf gc _ _ (Ne.symm NC.out) (by decide) BC.out); clear HI BX BC hx hf; have HI := n1_; have BX := n2_; have BC := n3_; clear n1_ n2_ n3_; (try clear x_0 x_1 x_2 x_3 x_4 c_0 c_1 c_2 c_3); have x_0 := (blk_cell BX.out 0).trans (show _ = some (Value.string x0) from rfl); have x_1 := (blk_cell BX.out 1).trans (show _ = some (Value.string x1) from rfl); have x_2 := (blk_cell BX.out 2).trans (show _ = some (Value.string x2) from rfl); have x_3 := (blk_cell BX.out 3).trans (show _ = some (Value.string x3) from rfl); have x_4 := (blk_cell BX.out 4).trans (show _ = some (Value.string x4) from rfl); have c_0 := (blk_cell BC.out 0).trans (show _ = some (Value.int .i64 ch.f0) from rfl); have c_1 := (blk_cell BC.out 1).trans (show _ = some (Value.int .i64 ch.f1) from rfl); have c_2 := (blk_cell BC.out 2).trans (show _ = some (Value.int .i64 ch.f2) from rfl); have c_3 := (blk_cell BC.out 3).trans (show _ = some (Value.int .i64 ch.f3) from rfl))
      go_upto_region 25 with (go_at_call 38; (with_reducible refine (If.all_calls B3 _ Y3 gb w (acc ++ r1 ++ x1.data.toList ++ r2 ++ x2.data.toList) r3 _ HI.out HE3.out HA3.out (by have := HSZ.out; (try simp only [List.length_append, ← Lib.size_eq]); omega) HY3.out).mono ?_); rintro e w22 ⟨rfl, hx, hf⟩; have n1_ := Aside0.mk hx; have n2_ := Aside0.mk (hf gx _ _ (Ne.symm NX.out) (by decide) BX.out); have n3_ := Aside0.mk (hf gc _ _ (Ne.symm NC.out) (by decide) BC.out); clear HI BX BC hx hf; have HI := n1_; have BX := n2_; have BC := n3_; clear n1_ n2_ n3_; (try clear x_0 x_1 x_2 x_3 x_4 c_0 c_1 c_2 c_3); have x_0 := (blk_cell BX.out 0).trans (show _ = some (Value.string x0) from rfl); have x_1 := (blk_cell BX.out 1).trans (show _ = some (Value.string x1) from rfl); have x_2 := (blk_cell BX.out 2).trans (show _ = some (Value.string x2) from rfl); have x_3 := (blk_cell BX.out 3).trans (show _ = some (Value.string x3) from rfl); have x_4 := (blk_cell BX.out 4).trans (show _ = some (Value.string x4) from rfl); have c_0 := (blk_cell BC.out 0).trans (show _ = some (Value.int .i64 ch.f0) from rfl); have c_1 := (blk_cell BC.out 1).trans (show _ = some (Value.int .i64 ch.f1) from rfl); have c_2 := (blk_cell BC.out 2).trans (show _ = some (Value.int .i64 ch.f2) from rfl); have c_3 := (blk_cell BC.out 3).trans (show _ = some (Value.int .i64 ch.f3) from rfl))
      go_wp2_with (go_at_call 20; (with_reducible refine (If.write gb w (acc ++ r1 ++ x1.data.toList ++ r2 ++ x2.data.toList ++ r3) x3 _ HI.out (by have := HSZ.out; (try simp only [List.length_append, ← Lib.size_eq]); omega)).mono ?_); rintro e w23 ⟨rfl, hx, hf⟩; have n1_ := Aside0.mk hx; have n2_ := Aside0.mk (hf gx _ _ (Ne.symm NX.out) (by decide) BX.out); have n3_ := Aside0.mk (hf gc _ _ (Ne.symm NC.out) (by decide) BC.out); clear HI BX BC hx hf; have HI := n1_; have BX := n2_; have BC := n3_; clear n1_ n2_ n3_; (try clear x_0 x_1 x_2 x_3 x_4 c_0 c_1 c_2 c_3); have x_0 := (blk_cell BX.out 0).trans (show _ = some (Value.string x0) from rfl); have x_1 := (blk_cell BX.out 1).trans (show _ = some (Value.string x1) from rfl); have x_2 := (blk_cell BX.out 2).trans (show _ = some (Value.string x2) from rfl); have x_3 := (blk_cell BX.out 3).trans (show _ = some (Value.string x3) from rfl); have x_4 := (blk_cell BX.out 4).trans (show _ = some (Value.string x4) from rfl); have c_0 := (blk_cell BC.out 0).trans (show _ = some (Value.int .i64 ch.f0) from rfl); have c_1 := (blk_cell BC.out 1).trans (show _ = some (Value.int .i64 ch.f1) from rfl); have c_2 := (blk_cell BC.out 2).trans (show _ = some (Value.int .i64 ch.f2) from rfl); have c_3 := (blk_cell BC.out 3).trans (show _ = some (Value.int .i64 ch.f3) from rfl))
      go_roundg q1
      case measure => omega
      case rel => exact ⟨z + 1, ch.f0 + ch.f1, _, by go_num, by go_num, by omega, by have := HZ.out; have := HG.out; omega, ⟨by have := HZ.out; omega⟩, HGF, HI, BX⟩
end Go.Proofs.YtchhelmilbheoaaDoor.X
