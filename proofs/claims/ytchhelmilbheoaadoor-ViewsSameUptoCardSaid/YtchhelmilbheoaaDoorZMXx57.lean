import Derived.Test.YtchhelmilbheoaaDoorZMXx0
import Derived.Deep.OwnRows
import Derived.Lib.Builder
import Derived.Lib.AppendStr
import Derived.Lib.UnsafeStr
import Derived.Laws.Externs
import Derived.Lib.SmallJoins
import Derived.Test.YtchhelmilbheoaaDoorZMHs
namespace Go.Proofs.YtchhelmilbheoaaDoor.X
open Go.RowKit Go.Proofs.YtchhelmilbheoaaDoorW.PrintWords Go.Proofs.YtchhelmilbheoaaDoorW.PrintLast Go.Proofs.YtchhelmilbheoaaDoorW.PrintMore
attribute [local go_sem] max2_int min2_int max_two min_two max_three min_three max_four min_four   -- for this text's walks alone
open Go.Proofs.YtchhelmilbheoaaDoorW.HandWords
set_option linter.unusedVariables false
set_option linter.unusedSimpArgs false
namespace Sb
structure Bs (b : Nat) (w0 W : World) (l : List UInt8) : Prop where
  i : Lib.IsBuilder 56 5 w0.heap.size b (Lib.byteCells l) W
  b_ : Below w0.heap.size w0 W
theorem at_move {B b : Nat} {p : Value} {bs : List Value} {W W1 : World} (h : Lib.BuilderAt 56 5 B b p bs W) (hb : W1.heap[b]? = W.heap[b]?) (hm : ∀ (k : Nat) (cells : Array Value), W.heap[k]? = some (.cells cells 5 (0, 0)) → W1.heap[k]? = W.heap[k]?) : Lib.BuilderAt 56 5 B b p bs W1 := by
  obtain ⟨h1, v, h2, h3, h4⟩ := h
  exact ⟨h1, v, hb.trans h2, own_move h3 (fun k hk => by obtain ⟨cells, hc⟩ := own_typed h3 k hk; exact hm k cells hc), h4⟩
theorem is_move {B b : Nat} {bs : List Value} {W W1 : World} (h : Lib.IsBuilder 56 5 B b bs W) (hb : W1.heap[b]? = W.heap[b]?) (hm : ∀ (k : Nat) (cells : Array Value), W.heap[k]? = some (.cells cells 5 (0, 0)) → W1.heap[k]? = W.heap[k]?) : Lib.IsBuilder 56 5 B b bs W1 :=
  h.elim (fun h => .inl (at_move h hb hm)) (fun h => .inr (at_move h hb hm))
theorem is_cell {B b : Nat} {bs : List Value} {W : World} (h : Lib.IsBuilder 56 5 B b bs W) : ∃ cs, W.heap[b]? = some (.cells cs 56 (0, 0)) := by
  rcases h with ⟨_, v, h2, _⟩ | ⟨_, v, h2, _⟩ <;> exact ⟨_, h2⟩
theorem Bs.below {b : Nat} {w0 W W1 : World} {l : List UInt8} (h : Bs b w0 W l) (hb : Below W.heap.size W W1) : Bs b w0 W1 l := by
  obtain ⟨cs, hc⟩ := is_cell h.i
  exact ⟨is_move h.i (hb.block b (blk_lt hc)) (fun k cells hk => hb.block k (blk_lt hk)), h.b_.trans (hb.mono h.b_.size)⟩
theorem Bs.far {b : Nat} {w0 W : World} {l : List UInt8} (h : Bs b w0 W l) {g t : Nat} {cs : Array Value} (hb : W.heap[g]? = some (.cells cs t (0, 0))) (n : b ≠ g) (ht : t ≠ 5) (hg : w0.heap.size ≤ g) (i : Nat) (u : Value) : Bs b w0 (W.setCell ⟨g, i, none⟩ u) l :=
  ⟨is_move h.i (Below.heap_setCell W ⟨g, i, none⟩ u b n) (fun k cells hk => Below.heap_setCell W ⟨g, i, none⟩ u k (fun e => by subst e; rw [hk] at hb; injection hb with hb; injection hb with _ h2 _; exact ht h2.symm)), h.b_.setCell hg u⟩
def sets (W : World) (g : Nat) : List (Nat × Value) → World
  | [] => W
  | (i, u) :: l => sets (W.setCell ⟨g, i, none⟩ u) g l
def Fb (b : Nat) (w w' : World) : Prop := ∀ (g : Nat) (cs : Array Value) (t : TypeId), g ≠ b → t ≠ 5 → w.heap[g]? = some (.cells cs t (0, 0)) → w'.heap[g]? = some (.cells cs t (0, 0))
theorem Fb.trans {b : Nat} {w w1 w2 : World} (h : Fb b w w1) (h2 : Fb b w1 w2) : Fb b w w2 := fun g cs t n1 n2 h3 => h2 g cs t n1 n2 (h g cs t n1 n2 h3)
set_option maxHeartbeats 1000000 in
set_option maxRecDepth 100000 in
theorem check_used (b : Nat) (w : World) (h0 : w.cell? ⟨b, 0, none⟩ = some (.pointer (some ⟨b, 0, none⟩))) :
    Calls Tryd.prog 39 #[.pointer (some ⟨b, 0, none⟩)] w fun e w' => e = .returned (.tuple #[]) ∧ w' = w := by
  obtain ⟨j, hj, hjs⟩ : ∃ j, Tryd.prog.info? 56 = some j ∧ j.size = 2 := ⟨_, rfl, rfl⟩
  go_enter Tryd.func39, Tryd.ntmps39
  go_wp2
  rw [Lib.run_neq_ptr_same w _ Tryd.underlying53 hj]
  go_wp2
  go_end0
  exact ⟨rfl, rfl⟩
set_option maxHeartbeats 1000000 in
set_option maxRecDepth 100000 in
theorem check_fresh (b : Nat) (w : World) (h0 : w.cell? ⟨b, 0, none⟩ = some (.pointer none)) (hsh : w.shape? b = some (56, 2)) (hfz : w.frozen? ⟨b, 0, none⟩ = false) :
    Calls Tryd.prog 39 #[.pointer (some ⟨b, 0, none⟩)] w fun e w' => e = .returned (.tuple #[]) ∧ w' = w.setCell ⟨b, 0, none⟩ (.pointer (some ⟨b, 0, none⟩)) := by
  obtain ⟨j, hj, hjs⟩ : ∃ j, Tryd.prog.info? 56 = some j ∧ j.size = 2 := ⟨_, rfl, rfl⟩
  go_enter Tryd.func39, Tryd.ntmps39
  go_wp2
  rw [Lib.run_to_unsafe w ⟨b, 0, none⟩ Tryd.underlying53 Tryd.underlying81 hj (by rw [hjs]; decide) hsh (Nat.zero_lt_succ 1)]
  simp only [Result.andThen]
  rw [Oper.upon_value]
  go_wp2
  rw [run_callFunc_extern Tryd.func59 (by kernel_rfl) (by kernel_rfl) (by kernel_rfl) (e := Extern.AbiNoEscape.same) (by kernel_rfl)]
  rw [Lib.run_noEscape]
  simp only [Result.andThen]
  rw [Oper.upon_value]
  go_wp2
  rw [Lib.run_from_unsafe w ⟨b, 0, none⟩ Tryd.underlying81 Tryd.underlying53 hj hsh (by kernel_rfl)]
  simp only [Result.andThen]
  rw [Oper.upon_value]
  go_wp2
  go_end0
  exact ⟨rfl, rfl⟩
theorem check_any (b : Nat) (w0 : World) (l : List UInt8) (w : World) (h : Bs b w0 w l) :
    Calls Tryd.prog 39 #[.pointer (some ⟨b, 0, none⟩)] w fun e w' => e = .returned (.tuple #[]) ∧ (Lib.BuilderAt 56 5 w0.heap.size b (.pointer (some ⟨b, 0, none⟩)) (Lib.byteCells l) w' ∧ Below w0.heap.size w0 w' ∧ Fb b w w') := by
  rcases h.i with h1 | h1
  · refine (check_fresh b w h1.cell0 h1.shape h1.frozen0).mono ?_
    rintro e w' ⟨rfl, rfl⟩
    exact ⟨rfl, h1.used _, h.b_.setCell (p := ⟨b, 0, none⟩) h1.1 _, fun g cs t n1 n2 h3 => blk_far h3 (p := ⟨b, 0, none⟩) n1 _⟩
  · refine (check_used b w h1.cell0).mono ?_
    rintro e w' ⟨rfl, rfl⟩
    exact ⟨rfl, h1, h.b_, fun _ _ _ _ _ h3 => h3⟩
set_option maxHeartbeats 1000000 in
set_option maxRecDepth 100000 in
theorem write (b : Nat) (w0 : World) (l : List UInt8) (s : ByteArray) (w : World) (h : Bs b w0 w l) (hlen : l.length + s.size ≤ 140737488355328) :
    Calls Tryd.prog 20 #[.pointer (some ⟨b, 0, none⟩), .string s] w fun e w' => e = .returned (.tuple #[.int .i64 s.size, .nilIface]) ∧ Bs b w0 w' (l ++ s.data.toList) ∧ Fb b w w' := by
  have hinf : (Tryd.prog.info? 5).map (fun i => (i.zero, i.size, i.bytes)) = some (some (.int .u8 0), 1, 1) := by kernel_rfl
  obtain ⟨i0, hi, hz0, hz1, hz2⟩ := info_parts hinf
  have hbl := Lib.byteCells_length l
  go_enter Tryd.func20, Tryd.ntmps20
  go_wp2_with (go_at_call 39; refine (check_any b w0 l w h).mono ?_)
  rintro e w1 ⟨rfl, h1, hb1, hf1⟩
  obtain ⟨hB, v, hbk, hown, hne⟩ := h1
  have c0 : w1.cell? ⟨b, 0, none⟩ = some (.pointer (some ⟨b, 0, none⟩)) := (blk_cell hbk 0).trans rfl
  have c1 : w1.cell? ⟨b, 1, none⟩ = some v := (blk_cell hbk 1).trans rfl
  go_wp2_with (at_builtin; refine Lib.wpList_append_own_string _ rfl _ _ 54 9 rfl w0.heap.size 5 i0 Tryd.underlying54 Tryd.underlying9 hi hz0 hz1 hz2 _ _ _ rfl hown s rfl ?c3 ?c4 ?c5 ?_)
  case c3 => unfold maxLen; rw [hbl]; omega
  case c4 => rw [hbl]; omega
  case c5 => exact hb1.size
  intro v' w2 hown' hgrow _
  have hb2 : w2.heap[b]? = some (.cells #[.pointer (some ⟨b, 0, none⟩), v] 56 (0, 0)) := blk_grown hbk hgrow (fun e => hne e.symm)
  have hf2 : Fb b w1 w2 := fun g cs t n1 n2 h3 => blk_grown h3 hgrow (fun e => by
    obtain ⟨cells, hc⟩ := own_typed hown g e.symm
    rw [h3] at hc
    injection hc with hc
    injection hc with _ h4 _
    exact n2 h4)
  have hb3 : Below w0.heap.size w0 w2 := hb1.grown hgrow hb1.size (fun k hk => (hown.lt k hk).1)
  have d0 : w2.cell? ⟨b, 0, none⟩ = some (.pointer (some ⟨b, 0, none⟩)) := (blk_cell hb2 0).trans rfl
  have d1 : w2.cell? ⟨b, 1, none⟩ = some v := (blk_cell hb2 1).trans rfl
  have f1 : w2.frozen? ⟨b, 1, none⟩ = false := blk_frozen hb2 1
  obtain ⟨ao, n', cap, rfl⟩ : ∃ ao n' cap, v' = .slice ao n' cap := by
    rcases hown'.2 with ⟨hv, _⟩ | ⟨g, cap, cur, hv, _⟩
    · exact ⟨_, _, _, hv⟩
    · exact ⟨_, _, _, hv⟩
  go_wp2
  go_ret2
  refine ⟨rfl, ⟨.inr ?_, hb3.setCell (p := ⟨b, 1, none⟩) hB _⟩, fun g cs t n1 n2 h3 => blk_far (hf2 g cs t n1 n2 (hf1 g cs t n1 n2 h3)) (p := ⟨b, 1, none⟩) n1 _⟩
  exact Lib.BuilderAt.put (T := 56) (e := 5) hB hb2 (bs' := Lib.byteCells (l ++ s.data.toList)) (by rw [Lib.byteCells_append, ← Lib.strCells_eq, List.length_append, Lib.strCells_length, hbl]; exact hown') (by decide)
set_option maxHeartbeats 1000000 in
set_option maxRecDepth 100000 in
theorem writeB (b : Nat) (w0 : World) (l : List UInt8) (x : UInt8) (c : Int) (hc : c = (x.toNat : Int)) (w : World) (h : Bs b w0 w l) (hlen : l.length + 1 ≤ 140737488355328) :
    Calls Tryd.prog 47 #[.pointer (some ⟨b, 0, none⟩), .int .u8 c] w fun e w' => e = .returned .nilIface ∧ Bs b w0 w' (l ++ [x]) ∧ Fb b w w' := by
  have hinf : (Tryd.prog.info? 5).map (fun i => (i.zero, i.size, i.bytes)) = some (some (.int .u8 0), 1, 1) := by kernel_rfl
  obtain ⟨i0, hi, hz0, hz1, hz2⟩ := info_parts hinf
  have hbl := Lib.byteCells_length l
  have HC := Aside0.mk hc
  clear hc
  go_enter Tryd.func47, Tryd.ntmps47
  go_wp2_with (go_at_call 39; refine (check_any b w0 l w h).mono ?_)
  rintro e w1 ⟨rfl, h1, hb1, hf1⟩
  obtain ⟨hB, v, hbk, hown, hne⟩ := h1
  have c0 : w1.cell? ⟨b, 0, none⟩ = some (.pointer (some ⟨b, 0, none⟩)) := (blk_cell hbk 0).trans rfl
  have c1 : w1.cell? ⟨b, 1, none⟩ = some v := (blk_cell hbk 1).trans rfl
  go_wp2_with (at_builtin; refine wpList_append_own _ rfl _ _ 54 rfl w0.heap.size 5 i0 (.int .u8 0) 1 1 Tryd.underlying54 hi hz0 hz1 hz2 rfl (by decide) _ _ _ rfl (hown.alloc _) ⟨w1.heap.size, 0, none⟩ 1 1 [.int .u8 c] rfl rfl ?c1 ?c2 ?c3 ?c4 ?c5 ?_)
  case c1 =>
    intro j u hj
    match j, hj with
    | 0, hj => simp at hj; subst hj; simp [Addr.add]
  case c2 => intro u hu; simp at hu; subst hu; rfl
  case c3 => unfold maxLen; rw [hbl]; omega
  case c4 => rw [hbl]; omega
  case c5 => have := hb1.size; simp; omega
  intro v' w2 hown' hgrow _
  have hlt := blk_lt hbk
  have hb2 : w2.heap[b]? = some (.cells #[.pointer (some ⟨b, 0, none⟩), v] 56 (0, 0)) := blk_grown ((Lib.alloc_old w1 _ b hlt).trans hbk) hgrow (fun e => hne e.symm)
  have hf2 : Fb b w1 w2 := fun g cs t n1 n2 h3 => blk_grown ((Lib.alloc_old w1 _ g (blk_lt h3)).trans h3) hgrow (fun e => by
    obtain ⟨cells, hc⟩ := own_typed hown g e.symm
    rw [h3] at hc
    injection hc with hc
    injection hc with _ h4 _
    exact n2 h4)
  have hb3 : Below w0.heap.size w0 w2 := (hb1.alloc hb1.size _).grown hgrow (by have := hb1.size; simp; omega) (fun k hk => (hown.lt k hk).1)
  have d0 : w2.cell? ⟨b, 0, none⟩ = some (.pointer (some ⟨b, 0, none⟩)) := (blk_cell hb2 0).trans rfl
  have d1 : w2.cell? ⟨b, 1, none⟩ = some v := (blk_cell hb2 1).trans rfl
  have f1 : w2.frozen? ⟨b, 1, none⟩ = false := blk_frozen hb2 1
  obtain ⟨ao, n', cap, rfl⟩ : ∃ ao n' cap, v' = .slice ao n' cap := by
    rcases hown'.2 with ⟨hv, _⟩ | ⟨g, cap, cur, hv, _⟩
    · exact ⟨_, _, _, hv⟩
    · exact ⟨_, _, _, hv⟩
  go_wp2
  go_ret
  refine ⟨rfl, ⟨.inr ?_, hb3.setCell (p := ⟨b, 1, none⟩) hB _⟩, fun g cs t n1 n2 h3 => blk_far (hf2 g cs t n1 n2 (hf1 g cs t n1 n2 h3)) (p := ⟨b, 1, none⟩) n1 _⟩
  exact Lib.BuilderAt.put (T := 56) (e := 5) hB hb2 (bs' := Lib.byteCells (l ++ [x])) (by rw [Lib.byteCells_append, show Lib.byteCells [x] = [.int .u8 c] from by rw [HC.out]; rfl, List.length_append, hbl]; exact hown') (by decide)
def ex : List UInt8 → List UInt8 → List UInt8
  | [], acc => acc
  | c :: l, acc => if c = 9 then ex l (acc ++ List.replicate (8 - acc.length % 8) 32) else ex l (acc ++ [c])
theorem rep_eq (n : Nat) : Lib.repeatL (⟨#[32]⟩ : ByteArray).data.toList n = List.replicate n 32 := by
  induction n with
  | zero => rfl
  | succ n ih =>
    have e : Lib.repeatL (⟨#[32]⟩ : ByteArray).data.toList (n + 1) = 32 :: Lib.repeatL (⟨#[32]⟩ : ByteArray).data.toList n := by
      simp [Lib.repeatL, List.replicate_succ]
    rw [e, ih, List.replicate_succ]
theorem ex_step (s : ByteArray) (z : Int) (h0 : 0 ≤ z) (h1 : z < (s.size : Int)) : ∃ x : UInt8, bt s z = (x.toNat : Int) ∧ s.data.toList.drop z.toNat = x :: s.data.toList.drop (z + 1).toNat := by
  have hl : s.data.toList.length = s.size := (Lib.size_eq s).symm
  have hz : z.toNat < s.size := by omega
  refine ⟨s[z.toNat]'hz, (bt_at s z hz).symm, ?_⟩
  rw [show (z + 1).toNat = z.toNat + 1 by omega, List.drop_eq_getElem_cons (show z.toNat < s.data.toList.length by omega)]
  congr 1
set_option maxHeartbeats 4000000 in
set_option maxRecDepth 100000 in
theorem expand (s : ByteArray) (w : World) (hs : s.size ≤ 1000000000000) :
    Calls Tryd.prog 29 #[.string s] w fun e w' => e = .returned (.string ⟨(ex s.data.toList []).toArray⟩) ∧ Below w.heap.size w w' := by
  have HB := Aside0.mk (Below.refl w.heap.size w)
  have HS := Aside0.mk hs
  obtain ⟨L, hL⟩ : ∃ L, ex s.data.toList [] = L := ⟨_, rfl⟩
  rw [hL]
  have HL := Aside0.mk hL
  clear hs hL
  go_enter Tryd.func29, Tryd.ntmps29
  go_wp2_with ((with_reducible refine gate_dst (N := 3) rfl ?_); refine box_event ?hg (N := 3) ?hd (cs := #[.pointer none, .slice none 0 0]) (t := 56) ?hr ?_; (case hd => rfl); (case hg => rfl); (case hr => first | (go_simp; done) | (go_simp; rfl)); intro gb hg w3 hbox hb; have GB := Aside0.mk (by rw [hg]; exact HB.out.size : w.heap.size ≤ gb); have n1_ := Aside0.mk (below_step HB.out hb); clear HB; have HI : Aside0 (Bs gb w w3 []) := ⟨⟨.inl ⟨GB.out, .slice none 0 0, hbox, Go.World.ownsRow_nil _ _ _ _, by simp [Value.ownBlock]⟩, n1_.out⟩⟩; clear n1_ hbox hg hb)
  go_loopg [7] s.size (fun q v7 w' => ∃ (z : Int) (acc : List UInt8), v7 = .int .i64 z ∧ 0 ≤ z ∧ z ≤ 1000000000000 ∧ Aside0 (z + (q : Int) = s.size ∧ acc.length ≤ 8 * z.toNat) ∧ Aside0 (ex (s.data.toList.drop z.toNat) acc = L) ∧ Aside0 (Bs gb w w' acc))
  case atStart => exact ⟨0, [], rfl, by omega, by omega, ⟨by omega, by simp⟩, ⟨HL.out⟩, HI⟩
  case round =>
    clear HI
    obtain ⟨z, acc, rfl, hz1, hz2, HZ, HE, HI⟩ := hrel
    cases gk with
    | zero =>
      have hzl : z = (s.size : Int) := by have := HZ.out.1; omega
      subst hzl
      have hp : ((s.size : Int) < (s.size : Int)) = False := eq_false (Int.lt_irrefl _)
      have h := HE.out
      rw [Int.toNat_natCast, Lib.size_eq, List.drop_length, ex] at h
      subst h
      go_wp2_with (go_at_call 21; (with_reducible refine (Tryd.Builder_String_any w.heap.size gb acc _ HI.out.i HI.out.b_.size).mono ?_); rintro e w9 ⟨rfl, hb⟩; have HEND := Aside0.mk (HI.out.b_.trans hb); clear hb)
      go_ret
      exact ⟨rfl, HEND.out⟩
    | succ q1 =>
      have hzl : decide (z < (s.size : Int)) = true := decide_eq_true (by have := HZ.out.1; omega)
      have hz3 := of_decide_eq_true hzl
      obtain ⟨x, hx, hd⟩ := ex_step s z hz1 hz3
      have he := HE.out
      rw [hd, ex] at he
      have hxs := bt_at s z
      obtain ⟨b, hb⟩ : ∃ b, bt s z = b := ⟨_, rfl⟩
      rw [hb] at hxs hx
      have hb2 : b = 9 ↔ x = 9 := by
        rw [hx]
        constructor
        · intro h
          have : x.toNat = 9 := by omega
          exact UInt8.toNat_inj.1 this
        · intro h; subst h; rfl
      have p1 := eq_true hz1
      have p2 := eq_true hz3
      have hw : wrap64 (z + 1) = z + 1 := by unfold wrap64; omega
      have HW := Aside0.mk hw
      have HX := Aside0.mk hx
      clear hb hd hw hx HE
      by_cases hx9 : x = 9
      · rw [if_pos hx9] at he
        obtain rfl : b = 9 := hb2.2 hx9
        have HE := Aside0.mk he
        clear he hx9 hb2
        obtain ⟨n, hn⟩ : ∃ n, 8 - acc.length % 8 = n := ⟨_, rfl⟩
        have hr : (8 - (acc.length : Int) % 8) = (n : Int) := by omega
        have HN := Aside0.mk (show n ≤ 8 by omega)
        obtain ⟨R, hR⟩ : ∃ R : ByteArray, (⟨(Lib.repeatL (⟨#[32]⟩ : ByteArray).data.toList n).toArray⟩ : ByteArray) = R := ⟨_, rfl⟩
        have hRl : R.data.toList = List.replicate n 32 := by rw [← hR, ← rep_eq]
        have HRS := Aside0.mk (show R.size = n by rw [Lib.size_eq, hRl, List.length_replicate])
        have HRL := Aside0.mk hRl
        have HR := Aside0.mk hr
        have HRR := Aside0.mk hR
        rw [hn, ← hRl] at HE
        clear hn hr hRl hR
        go_wp2_with (first | (go_at_call 48; (with_reducible refine (Tryd.Builder_Len w.heap.size gb (Lib.byteCells acc) _ HI.out.i).mono ?_); rintro e w5 ⟨rfl, rfl⟩; rw [Lib.byteCells_length]) | (go_at_call 31; rw [HR.out]; refine (Tryd.strings_Repeat _ n _ (by have := HN.out; omega) (by have := HN.out; show 1 * n ≤ _; omega)).mono ?_; rintro e w6 ⟨rfl, hb⟩; have n1_ := Aside0.mk (HI.out.below hb); clear HI hb; have HI := n1_; clear n1_; rw [HRR.out]) | (go_at_call 20; (with_reducible refine (write gb w acc R _ HI.out (by have := HZ.out; have := HRS.out; have := HN.out; omega)).mono ?_); rintro e w7 ⟨rfl, hi, _⟩; clear HI; have HI := Aside0.mk hi; clear hi))
        go_roundg q1
        case measure => omega
        case rel => exact ⟨z + 1, _, by go_num, by omega, by have := HZ.out; have := HS.out; omega, ⟨by have := HZ.out; omega, by have := HZ.out; have h := HRS.out; have := HN.out; rw [Lib.size_eq] at h; rw [List.length_append, h]; omega⟩, HE, HI⟩
      · rw [if_neg hx9] at he
        have hb9 : ¬ b = 9 := fun h => hx9 (hb2.1 h)
        have n1 : (b = 9) = False := eq_false hb9
        have n2 : (b == 9) = false := beq_eq_false_iff_ne.mpr hb9
        have n3 : (b != 9) = true := bne_iff_ne.mpr hb9
        have HE := Aside0.mk he
        clear he hx9 hb2
        go_wp2_with (go_at_call 47; (with_reducible refine (writeB gb w acc x b HX.out _ HI.out (by have := HZ.out; omega)).mono ?_); rintro e w5 ⟨rfl, hi, _⟩; clear HI; have HI := Aside0.mk hi; clear hi)
        go_roundg q1
        case measure => omega
        case rel => exact ⟨z + 1, _, by go_num, by omega, by have := HZ.out; have := HS.out; omega, ⟨by have := HZ.out; omega, by have := HZ.out; simp; omega⟩, HE, HI⟩
end Sb
def canon_Expand.f (a0 : ByteArray) : Option ByteArray := if a0.size ≤ 1000000000000 then some ⟨(Sb.ex a0.data.toList []).toArray⟩ else none
theorem canon_Expand.calls (a0 : ByteArray) (r : ByteArray) (w : World) (h : canon_Expand.f a0 = some r) :
    Calls Tryd.prog 29 #[.string a0] w fun e w' => e = .returned (.string r) ∧ Below w.heap.size w w' := by
  unfold canon_Expand.f at h
  by_cases hs : a0.size ≤ 1000000000000
  · rw [if_pos hs] at h
    cases h
    exact Sb.expand a0 w hs
  · rw [if_neg hs] at h; cases h
end Go.Proofs.YtchhelmilbheoaaDoor.X
