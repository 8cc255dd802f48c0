import Derived.Test.YtchhelmilbheoaaDoorZRXx0
import Derived.Deep.OwnRows
import Derived.Lib.Builder
import Derived.Lib.AppendStr
import Derived.Lib.UnsafeStr
import Derived.Laws.Externs
import Derived.Lib.SmallJoins
import Derived.Test.YtchhelmilbheoaaDoorZRHs
namespace Go.Proofs.YtchhelmilbheoaaDoor.X
open Go.RowKit Go.Proofs.YtchhelmilbheoaaDoorW.PrintWords Go.Proofs.YtchhelmilbheoaaDoorW.PrintLast Go.Proofs.YtchhelmilbheoaaDoorW.PrintMore
attribute [local go_sem] max2_int min2_int max_two min_two max_three min_three max_four min_four   -- for this text's walks alone
open Go.Proofs.YtchhelmilbheoaaDoorW.HandWords
set_option linter.unusedVariables false
set_option linter.unusedSimpArgs false
namespace Sb
structure Bs (b : Nat) (w0 W : World) (l : List UInt8) : Prop where
  i : Lib.IsBuilder 56 5 w0.heap.size b (Lib.byteCells l) W
  b_ : Below w0.heap.size w0 W
theorem at_move {B b : Nat} {p : Value} {bs : List Value} {W W1 : World} (h : Lib.BuilderAt 56 5 B b p bs W) (hb : W1.heap[b]? = W.heap[b]?) (hm : ∀ (k : Nat) (cells : Array Value), W.heap[k]? = some (.cells cells 5 (0, 0)) → W1.heap[k]? = W.heap[k]?) : Lib.BuilderAt 56 5 B b p bs W1 := by
  obtain ⟨h1, v, h2, h3, h4⟩ := h
  exact ⟨h1, v, hb.trans h2, own_move h3 (fun k hk => by obtain ⟨cells, hc⟩ := own_typed h3 k hk; exact hm k cells hc), h4⟩
theorem is_move {B b : Nat} {bs : List Value} {W W1 : World} (h : Lib.IsBuilder 56 5 B b bs W) (hb : W1.heap[b]? = W.heap[b]?) (hm : ∀ (k : Nat) (cells : Array Value), W.heap[k]? = some (.cells cells 5 (0, 0)) → W1.heap[k]? = W.heap[k]?) : Lib.IsBuilder 56 5 B b bs W1 :=
  h.elim (fun h => .inl (at_move h hb hm)) (fun h => .inr (at_move h hb hm))
theorem is_cell {B b : Nat} {bs : List Value} {W : World} (h : Lib.IsBuilder 56 5 B b bs W) : ∃ cs, W.heap[b]? = some (.cells cs 56 (0, 0)) := by
  rcases h with ⟨_, v, h2, _⟩ | ⟨_, v, h2, _⟩ <;> exact ⟨_, h2⟩
theorem Bs.below {b : Nat} {w0 W W1 : World} {l : List UInt8} (h : Bs b w0 W l) (hb : Below W.heap.size W W1) : Bs b w0 W1 l := by
  obtain ⟨cs, hc⟩ := is_cell h.i
  exact ⟨is_move h.i (hb.block b (blk_lt hc)) (fun k cells hk => hb.block k (blk_lt hk)), h.b_.trans (hb.mono h.b_.size)⟩
def sets (W : World) (g : Nat) : List (Nat × Value) → World
  | [] => W
  | (i, u) :: l => sets (W.setCell ⟨g, i, none⟩ u) g l
def Fb (b : Nat) (w w' : World) : Prop := ∀ (g : Nat) (cs : Array Value) (t : TypeId), g ≠ b → t ≠ 5 → w.heap[g]? = some (.cells cs t (0, 0)) → w'.heap[g]? = some (.cells cs t (0, 0))
set_option maxHeartbeats 1000000 in
set_option maxRecDepth 100000 in
theorem check_used (b : Nat) (w : World) (h0 : w.cell? ⟨b, 0, none⟩ = some (.pointer (some ⟨b, 0, none⟩))) :
    Calls Tryd.prog 39 #[.pointer (some ⟨b, 0, none⟩)] w fun e w' => e = .returned (.tuple #[]) ∧ w' = w := by
  obtain ⟨j, hj, hjs⟩ : ∃ j, Tryd.prog.info? 56 = some j ∧ j.size = 2 := ⟨_, rfl, rfl⟩
  go_enter Tryd.func39, Tryd.ntmps39
  go_wp2
  rw [Lib.run_neq_ptr_same w _ Tryd.underlying53 hj]
  go_wp2
  go_end0
  exact ⟨rfl, rfl⟩
set_option maxHeartbeats 1000000 in
set_option maxRecDepth 100000 in
theorem check_fresh (b : Nat) (w : World) (h0 : w.cell? ⟨b, 0, none⟩ = some (.pointer none)) (hsh : w.shape? b = some (56, 2)) (hfz : w.frozen? ⟨b, 0, none⟩ = false) :
    Calls Tryd.prog 39 #[.pointer (some ⟨b, 0, none⟩)] w fun e w' => e = .returned (.tuple #[]) ∧ w' = w.setCell ⟨b, 0, none⟩ (.pointer (some ⟨b, 0, none⟩)) := by
  obtain ⟨j, hj, hjs⟩ : ∃ j, Tryd.prog.info? 56 = some j ∧ j.size = 2 := ⟨_, rfl, rfl⟩
  go_enter Tryd.func39, Tryd.ntmps39
  go_wp2
  rw [Lib.run_to_unsafe w ⟨b, 0, none⟩ Tryd.underlying53 Tryd.underlying81 hj (by rw [hjs]; decide) hsh (Nat.zero_lt_succ 1)]
  simp only [Result.andThen]
  rw [Oper.upon_value]
  go_wp2
  rw [run_callFunc_extern Tryd.func59 (by kernel_rfl) (by kernel_rfl) (by kernel_rfl) (e := Extern.AbiNoEscape.same) (by kernel_rfl)]
  rw [Lib.run_noEscape]
  simp only [Result.andThen]
  rw [Oper.upon_value]
  go_wp2
  rw [Lib.run_from_unsafe w ⟨b, 0, none⟩ Tryd.underlying81 Tryd.underlying53 hj hsh (by kernel_rfl)]
  simp only [Result.andThen]
  rw [Oper.upon_value]
  go_wp2
  go_end0
  exact ⟨rfl, rfl⟩
theorem check_any (b : Nat) (w0 : World) (l : List UInt8) (w : World) (h : Bs b w0 w l) :
    Calls Tryd.prog 39 #[.pointer (some ⟨b, 0, none⟩)] w fun e w' => e = .returned (.tuple #[]) ∧ (Lib.BuilderAt 56 5 w0.heap.size b (.pointer (some ⟨b, 0, none⟩)) (Lib.byteCells l) w' ∧ Below w0.heap.size w0 w' ∧ Fb b w w') := by
  rcases h.i with h1 | h1
  · refine (check_fresh b w h1.cell0 h1.shape h1.frozen0).mono ?_
    rintro e w' ⟨rfl, rfl⟩
    exact ⟨rfl, h1.used _, h.b_.setCell (p := ⟨b, 0, none⟩) h1.1 _, fun g cs t n1 n2 h3 => blk_far h3 (p := ⟨b, 0, none⟩) n1 _⟩
  · refine (check_used b w h1.cell0).mono ?_
    rintro e w' ⟨rfl, rfl⟩
    exact ⟨rfl, h1, h.b_, fun _ _ _ _ _ h3 => h3⟩
set_option maxHeartbeats 1000000 in
set_option maxRecDepth 100000 in
theorem write (b : Nat) (w0 : World) (l : List UInt8) (s : ByteArray) (w : World) (h : Bs b w0 w l) (hlen : l.length + s.size ≤ 140737488355328) :
    Calls Tryd.prog 20 #[.pointer (some ⟨b, 0, none⟩), .string s] w fun e w' => e = .returned (.tuple #[.int .i64 s.size, .nilIface]) ∧ Bs b w0 w' (l ++ s.data.toList) ∧ Fb b w w' := by
  have hinf : (Tryd.prog.info? 5).map (fun i => (i.zero, i.size, i.bytes)) = some (some (.int .u8 0), 1, 1) := by kernel_rfl
  obtain ⟨i0, hi, hz0, hz1, hz2⟩ := info_parts hinf
  have hbl := Lib.byteCells_length l
  go_enter Tryd.func20, Tryd.ntmps20
  go_wp2_with (go_at_call 39; refine (check_any b w0 l w h).mono ?_)
  rintro e w1 ⟨rfl, h1, hb1, hf1⟩
  obtain ⟨hB, v, hbk, hown, hne⟩ := h1
  have c0 : w1.cell? ⟨b, 0, none⟩ = some (.pointer (some ⟨b, 0, none⟩)) := (blk_cell hbk 0).trans rfl
  have c1 : w1.cell? ⟨b, 1, none⟩ = some v := (blk_cell hbk 1).trans rfl
  go_wp2_with (at_builtin; refine Lib.wpList_append_own_string _ rfl _ _ 54 9 rfl w0.heap.size 5 i0 Tryd.underlying54 Tryd.underlying9 hi hz0 hz1 hz2 _ _ _ rfl hown s rfl ?c3 ?c4 ?c5 ?_)
  case c3 => unfold maxLen; rw [hbl]; omega
  case c4 => rw [hbl]; omega
  case c5 => exact hb1.size
  intro v' w2 hown' hgrow _
  have hb2 : w2.heap[b]? = some (.cells #[.pointer (some ⟨b, 0, none⟩), v] 56 (0, 0)) := blk_grown hbk hgrow (fun e => hne e.symm)
  have hf2 : Fb b w1 w2 := fun g cs t n1 n2 h3 => blk_grown h3 hgrow (fun e => by
    obtain ⟨cells, hc⟩ := own_typed hown g e.symm
    rw [h3] at hc
    injection hc with hc
    injection hc with _ h4 _
    exact n2 h4)
  have hb3 : Below w0.heap.size w0 w2 := hb1.grown hgrow hb1.size (fun k hk => (hown.lt k hk).1)
  have d0 : w2.cell? ⟨b, 0, none⟩ = some (.pointer (some ⟨b, 0, none⟩)) := (blk_cell hb2 0).trans rfl
  have d1 : w2.cell? ⟨b, 1, none⟩ = some v := (blk_cell hb2 1).trans rfl
  have f1 : w2.frozen? ⟨b, 1, none⟩ = false := blk_frozen hb2 1
  obtain ⟨ao, n', cap, rfl⟩ : ∃ ao n' cap, v' = .slice ao n' cap := by
    rcases hown'.2 with ⟨hv, _⟩ | ⟨g, cap, cur, hv, _⟩
    · exact ⟨_, _, _, hv⟩
    · exact ⟨_, _, _, hv⟩
  go_wp2
  go_ret2
  refine ⟨rfl, ⟨.inr ?_, hb3.setCell (p := ⟨b, 1, none⟩) hB _⟩, fun g cs t n1 n2 h3 => blk_far (hf2 g cs t n1 n2 (hf1 g cs t n1 n2 h3)) (p := ⟨b, 1, none⟩) n1 _⟩
  exact Lib.BuilderAt.put (T := 56) (e := 5) hB hb2 (bs' := Lib.byteCells (l ++ s.data.toList)) (by rw [Lib.byteCells_append, ← Lib.strCells_eq, List.length_append, Lib.strCells_length, hbl]; exact hown') (by decide)
def ex : List UInt8 → List UInt8 → List UInt8
  | [], acc => acc
  | c :: l, acc => if c = 9 then ex l (acc ++ List.replicate (8 - acc.length % 8) 32) else ex l (acc ++ [c])
end Sb
def canon_Expand.f (a0 : ByteArray) : Option ByteArray := if a0.size ≤ 1000000000000 then some ⟨(Sb.ex a0.data.toList []).toArray⟩ else none
end Go.Proofs.YtchhelmilbheoaaDoor.X
