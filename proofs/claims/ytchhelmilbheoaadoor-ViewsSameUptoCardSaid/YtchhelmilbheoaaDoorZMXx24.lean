import Derived.Test.YtchhelmilbheoaaDoorZMXx0
import Derived.Test.YtchhelmilbheoaaDoorZMXx17
import Derived.Test.YtchhelmilbheoaaDoorZMXx18
import Derived.Test.YtchhelmilbheoaaDoorZMXx19
import Derived.Test.YtchhelmilbheoaaDoorZMXx57
namespace Go.Proofs.YtchhelmilbheoaaDoor.X
open Go.RowKit Go.Proofs.YtchhelmilbheoaaDoorW.PrintWords Go.Proofs.YtchhelmilbheoaaDoorW.PrintLast Go.Proofs.YtchhelmilbheoaaDoorW.PrintMore
attribute [local go_sem] max2_int min2_int max_two min_two max_three min_three max_four min_four   -- for this text's walks alone
open Go.Proofs.YtchhelmilbheoaaDoorW.HandWords
set_option linter.unusedVariables false
set_option linter.unusedSimpArgs false
namespace Rs
def T17 : Bool × List (List Nat × List Nat) := (true, [([], []), ([], []), ([], []), ([], []), ([3], [3]), ([2, 4], [2, 4]), ([1, 5], [1, 5]), ([0, 0], [0]), ([6, 7, 0, 1, 2, 3, 4, 5, 6, 7], [6])])
def B17 : List Nat := [0, 0, 0, 0, 8, 28, 62, 1, 255]
theorem tab17 : rtab .any (opsOf Tryd.f7 17) = T17 := by kernel_rfl
theorem bits17 : waitsOk T17.2 B17 = true := by kernel_rfl
abbrev Flt := Option (Int × Int)
def go (x0 x1 x2 x3 x4 : ByteArray) (df : Bool) : List ByteArray → Int → ByteArray → Bool → List UInt8 → ByteArray × Flt
  | [], i, op, _, acc => if op.toList = [] then (⟨acc.toArray⟩, none) else (⟨#[]⟩, some (i + 1, 1))
  | s :: l, i, op, ct, acc =>
    if s.toList = x0.toList then (if op.toList = [] then go x0 x1 x2 x3 x4 df l (i + 1) s df acc else (⟨#[]⟩, some (i + 1, 121)))
    else if s.toList = x1.toList then (if op.toList = [] then go x0 x1 x2 x3 x4 df l (i + 1) s (!df) acc else (⟨#[]⟩, some (i + 1, 121)))
    else if s.toList = x2.toList then (if op.toList = x1.toList then go x0 x1 x2 x3 x4 df l (i + 1) s df acc else (⟨#[]⟩, some (i + 1, 121)))
    else if s.toList = x3.toList then (if op.toList = x0.toList ∨ op.toList = x2.toList then go x0 x1 x2 x3 x4 df l (i + 1) ⟨#[]⟩ true acc else (⟨#[]⟩, some (i + 1, 121)))
    else if s.toList = x4.toList then (if op.toList = x1.toList then go x0 x1 x2 x3 x4 df l (i + 1) ⟨#[]⟩ true acc else (⟨#[]⟩, some (i + 1, 121)))
    else if ct = true then go x0 x1 x2 x3 x4 df l (i + 1) op ct (acc ++ s.data.toList) else go x0 x1 x2 x3 x4 df l (i + 1) op ct acc
def IsF (W : World) (base : Nat) (v : Value) : Flt → Prop
  | none => v = .nilIface
  | some (a, e) => ∃ g, v = .iface 47 (.pointer (some ⟨g, 0, none⟩)) ∧ base ≤ g ∧ W.heap[g]? = some (.cells #[.int .i64 a, .iface 26 (.int .i64 e)] 49 (0, 0))
def tot : List ByteArray → Nat
  | [] => 0
  | s :: l => s.size + tot l
end Rs
def views_Resolve.f (a0 a1 : ByteArray) (a2 : Bool) : Option (ByteArray × Rs.Flt) :=
  (views_named.f a1).bind fun t => if t = true then (views_of.f a1).bind fun x => (lines_Split.f a0).bind fun l => if l.length ≤ 1000000000 ∧ Rs.tot l ≤ 100000000000000 then some (Rs.go x.1 x.2.1 x.2.2.1 x.2.2.2.1 x.2.2.2.2 a2 l 0 ⟨#[]⟩ true []) else none else some (⟨#[]⟩, some (0, 253))
set_option maxHeartbeats 8000000 in
set_option maxRecDepth 100000 in
theorem views_Resolve.calls (a0 a1 : ByteArray) (a2 : Bool) (r1 : ByteArray) (r2 : Rs.Flt) (w : World) (h : views_Resolve.f a0 a1 a2 = some (r1, r2)) :
    Calls Tryd.prog 7 #[.string a0, .string a1, .bool a2] w fun e w' => ∃ v : Value, e = .returned (.tuple #[.string r1, v]) ∧ Rs.IsF w' w.heap.size v r2 ∧ Below w.heap.size w w' := by
  unfold views_Resolve.f at h
  obtain ⟨t, hnm, h⟩ := Option.bind_eq_some_iff.mp h
  have HNM := Aside0.mk hnm
  clear hnm
  by_cases ht : t = true
  case neg =>
    rw [if_neg ht] at h
    injection h with h
    injection h with h1 h2
    subst h1 h2
    obtain rfl : t = false := by simpa using ht
    clear ht
    go_enter Tryd.func7, Tryd.ntmps7
    go_wp2_with (go_at_call 18; (with_reducible refine (views_named.calls a1 _ _ HNM.out).mono ?_); rintro e w1 ⟨rfl, hd1⟩; have HB := Aside0.mk hd1; clear hd1)
    go_ret2
    exact ⟨_, rfl, ⟨_, rfl, HB.out.size, World.alloc_heap_new _ _⟩, HB.out.alloc HB.out.size _⟩
  rw [if_pos ht] at h
  subst ht
  obtain ⟨⟨x0, x1, x2, x3, x4⟩, hof, h⟩ := Option.bind_eq_some_iff.mp h
  obtain ⟨l, hsp, h⟩ := Option.bind_eq_some_iff.mp h
  dsimp only at h
  by_cases hz : l.length ≤ 1000000000 ∧ Rs.tot l ≤ 100000000000000
  case neg => rw [if_neg hz] at h; cases h
  rw [if_pos hz] at h
  have HGO := Aside0.mk (Option.some.inj h)
  have HOF := Aside0.mk hof
  have HSP := Aside0.mk hsp
  have HZZ := Aside0.mk hz
  clear h hof hsp hz
  go_enter Tryd.func7, Tryd.ntmps7
  go_upto_region 5 with (first | (go_at_call 18; (with_reducible refine (views_named.calls a1 _ _ HNM.out).mono ?_); rintro e w1 ⟨rfl, hd1⟩; have HB := Aside0.mk hd1; clear hd1) | (go_at_call 19; (with_reducible refine (views_of.calls a1 x0 x1 x2 x3 x4 _ HOF.out).mono ?_); rintro e w2 ⟨rfl, hb⟩; have n1_ := Aside0.mk (below_step HB.out hb); clear HB hb; have HB := n1_; clear n1_) | ((with_reducible refine gate_dst (N := 8) rfl ?_); refine box_event ?hg (N := 8) ?hd (cs := #[.string ⟨#[]⟩, .string ⟨#[]⟩, .string ⟨#[]⟩, .string ⟨#[]⟩, .string ⟨#[]⟩]) (t := 51) ?hr ?_; (case hd => rfl); (case hg => rfl); (case hr => first | (go_simp; done) | (go_simp; rfl)); intro gx hg w3 hbox hb; have GX := Aside0.mk (by rw [hg]; exact HB.out.size : w.heap.size ≤ gx); have n1_ := Aside0.mk (below_step HB.out hb); clear HB; have HB := n1_; clear n1_; have BX := Aside0.mk hbox; clear hbox hg hb; have o0 := (blk_cell BX.out 0).trans (show _ = some (Value.string ⟨#[]⟩) from rfl); have o1 := (blk_cell BX.out 1).trans (show _ = some (Value.string ⟨#[]⟩) from rfl); have o2 := (blk_cell BX.out 2).trans (show _ = some (Value.string ⟨#[]⟩) from rfl); have o3 := (blk_cell BX.out 3).trans (show _ = some (Value.string ⟨#[]⟩) from rfl); have o4 := (blk_cell BX.out 4).trans (show _ = some (Value.string ⟨#[]⟩) from rfl); have k0 := blk_frozen BX.out 0; have k1 := blk_frozen BX.out 1; have k2 := blk_frozen BX.out 2; have k3 := blk_frozen BX.out 3; have k4 := blk_frozen BX.out 4) | ((with_reducible refine gate_store (t := 51) (p := 8) rfl ?_); refine store_event (t := 51) (p := 8) (v := ?vo_sx) (w1 := ((((w3.setCell ⟨gx, 0, none⟩ (.string x0)).setCell ⟨gx, 1, none⟩ (.string x1)).setCell ⟨gx, 2, none⟩ (.string x2)).setCell ⟨gx, 3, none⟩ (.string x3)).setCell ⟨gx, 4, none⟩ (.string x4)) ?hg ?ho ?hn ?hr ?_; (case ho => rfl); (case hg => rfl); (case hn => rfl); (case hr => first | (go_simp; done) | (go_simp; rfl)); intro w4 hw; have n0_ : Aside0 (w4.heap[gx]? = some (.cells #[.string x0, .string x1, .string x2, .string x3, .string x4] 51 (0, 0))) := ⟨by rw [hw]; exact blk_put (blk_put (blk_put (blk_put (blk_put (BX.out) 0 _ rfl) 1 _ rfl) 2 _ rfl) 3 _ rfl) 4 _ rfl⟩; have n1_ : Aside0 (Below w.heap.size w w4) := ⟨by rw [hw]; exact (((((HB.out).setCell (p := ⟨gx, 0, none⟩) GX.out _).setCell (p := ⟨gx, 1, none⟩) GX.out _).setCell (p := ⟨gx, 2, none⟩) GX.out _).setCell (p := ⟨gx, 3, none⟩) GX.out _).setCell (p := ⟨gx, 4, none⟩) GX.out _⟩; clear HB BX hw o0 o1 o2 o3 o4 k0 k1 k2 k3 k4; have BX := n0_; have HB := n1_; clear n0_ n1_) | (go_at_call 15; (with_reducible refine (lines_Split.calls a0 l _ HSP.out).mono ?_); rintro e w5 ⟨v0_, rfl, hR5, hb⟩; have n0_ := Aside0.mk (blk_below BX.out hb); have n1_ := Aside0.mk (below_step HB.out hb); have HRW := Aside0.mk hR5; clear BX HB hb hR5; have BX := n0_; have HB := n1_; clear n0_ n1_))
  obtain ⟨Al, cl, rfl⟩ := Kd.R_slice HRW.out
  have HC := Aside0.mk (Kd.R_reads' HRW.out).2.2
  have HCL := Aside0.mk (Kd.R_reads' HRW.out).2.1
  clear HRW
  go_wp2_with (first | ((with_reducible refine gate_dst (N := 10) rfl ?_); refine box_event ?hg (N := 10) ?hd (cs := #[.pointer none, .slice none 0 0]) (t := 56) ?hr ?_; (case hd => rfl); (case hg => rfl); (case hr => first | (go_simp; done) | (go_simp; rfl)); intro gb hg w6 hbox hb; have GB := Aside0.mk (by rw [hg]; exact Nat.le_refl _ : w5.heap.size ≤ gb); have HI : Aside0 (Sb.Bs gb w5 w6 []) := ⟨⟨.inl ⟨GB.out, .slice none 0 0, hbox, Go.World.ownsRow_nil _ _ _ _, by simp [Value.ownBlock]⟩, hb⟩⟩; clear hbox hg hb))
  go_loopg [11, 12, 29] l.length (fun q v11 v12 v29 w' => ∃ (z : Int) (op : ByteArray) (ct : Bool) (acc : List UInt8), v11 = .string op ∧ v12 = .bool ct ∧ v29 = .int .i64 z ∧ 0 ≤ z ∧ z ≤ 1000000000 ∧ Aside0 (z + (q : Int) = l.length) ∧ Aside0 (Rs.go x0 x1 x2 x3 x4 a2 (l.drop z.toNat) z op ct acc = (r1, r2)) ∧ Aside0 (acc.length + Rs.tot (l.drop z.toNat) ≤ 100000000000000) ∧ Aside0 (Sb.Bs gb w5 w' acc))
  case atStart => exact ⟨0, ⟨#[]⟩, true, [], rfl, rfl, rfl, by omega, by omega, ⟨by omega⟩, ⟨by rw [show (0 : Int).toNat = 0 from rfl, List.drop_zero]; exact HGO.out⟩, ⟨by rw [show (0 : Int).toNat = 0 from rfl, List.drop_zero, List.length_nil]; have := HZZ.out; omega⟩, HI⟩
  case round =>
    clear HGO HI
    obtain ⟨z, op, ct, acc, rfl, rfl, rfl, hz1, hz2, HZ, HGO, HTL, HI⟩ := hrel
    have HBW := Aside0.mk (HB.out.trans (HI.out.b_.mono HB.out.size))
    cases gk with
    | zero =>
      have hzl : z = (l.length : Int) := by have := HZ.out; omega
      subst hzl
      have hp : ((l.length : Int) < (l.length : Int)) = False := eq_false (Int.lt_irrefl _)
      have h := HGO.out
      rw [Int.toNat_natCast, List.drop_length, Rs.go] at h
      by_cases he : op.toList = []
      · rw [if_pos he] at h
        injection h with h1 h2
        subst h1 h2
        have g1 : op.toList.isEmpty = true := by rw [he]; rfl
        have g2 : (op.toList == []) = true := by rw [he]; rfl
        have g3 : (op.toList != []) = false := by rw [he]; rfl
        have g4 : decide (op.toList = []) = true := decide_eq_true he
        clear he
        go_wp2_with (go_at_call 21; (with_reducible refine (Tryd.Builder_String_any w5.heap.size gb acc _ HI.out.i HI.out.b_.size).mono ?_); rintro e w9 ⟨rfl, hb⟩; have HEND := Aside0.mk (HB.out.trans ((HI.out.b_.trans hb).mono HB.out.size)); clear hb)
        go_ret2
        exact ⟨_, rfl, rfl, HEND.out⟩
      · rw [if_neg he] at h
        injection h with h1 h2
        subst h1 h2
        have g1 : op.toList.isEmpty = false := by cases hq : op.toList with | nil => exact absurd hq he | cons _ _ => rfl
        have g2 : (op.toList == []) = false := beq_eq_false_iff_ne.mpr he
        have g3 : (op.toList != []) = true := bne_iff_ne.mpr he
        have g4 : decide (op.toList = []) = false := decide_eq_false he
        have hw : wrap64 ((l.length : Int) + 1) = (l.length : Int) + 1 := by have := HZZ.out; unfold wrap64; omega
        clear he
        go_wp2
        go_ret2
        exact ⟨_, rfl, ⟨_, rfl, HBW.out.size, World.alloc_heap_new _ _⟩, HBW.out.alloc HBW.out.size _⟩
    | succ q1 =>
      have hzl : decide (z < (l.length : Int)) = true := decide_eq_true (by have := HZ.out; omega)
      have hz3 := of_decide_eq_true hzl
      obtain ⟨ad0, ea0, hx0⟩ := Kd.at_string HC.out z hz1 hz3
      cases ea0
      have hxs := (HI.out.b_.cell (World.block_lt_of_cell? w5 _ hx0)).trans hx0
      have p1 := eq_true hz1
      have p2 := eq_true hz3
      have hd : l.drop z.toNat = rdOf ByteArray.empty l z :: l.drop (z + 1).toNat := by
        rw [show (z + 1).toNat = z.toNat + 1 by omega, List.drop_eq_getElem_cons (by omega)]
        simp [rdOf, List.getD_eq_getElem?_getD, show z.toNat < l.length by omega]
      have hw : wrap64 (z + 1) = z + 1 := by unfold wrap64; omega
      obtain ⟨s, hs⟩ : ∃ s, rdOf ByteArray.empty l z = s := ⟨_, rfl⟩
      have h := HGO.out
      have ht := HTL.out
      rw [hd, hs, Rs.go] at h
      rw [hd, hs, Rs.tot] at ht
      rw [hs] at hxs
      have HTT := Aside0.mk ht
      have HW := Aside0.mk hw
      have HBX := Aside0.mk (blk_below BX.out HI.out.b_)
      have c_0 := (blk_cell HBX.out 0).trans (show _ = some (Value.string x0) from rfl)
      have c_1 := (blk_cell HBX.out 1).trans (show _ = some (Value.string x1) from rfl)
      have c_2 := (blk_cell HBX.out 2).trans (show _ = some (Value.string x2) from rfl)
      have c_3 := (blk_cell HBX.out 3).trans (show _ = some (Value.string x3) from rfl)
      have c_4 := (blk_cell HBX.out 4).trans (show _ = some (Value.string x4) from rfl)
      clear hd hx0 hz3 hs ht HGO HTL
      by_cases e0 : s.toList = x0.toList
      · rw [if_pos e0] at h
        have e0a : (s.toList == x0.toList) = true := beq_iff_eq.mpr e0
        have e0b : (s.toList != x0.toList) = false := bne_eq_false_iff_eq.mpr e0
        clear e0
        by_cases ho : op.toList = []
        · rw [if_pos ho] at h
          have HG2 := Aside0.mk h
          have g1 : op.toList.isEmpty = true := by rw [ho]; rfl
          have g2 : (op.toList == []) = true := by rw [ho]; rfl
          have g4 : decide (op.toList = []) = true := decide_eq_true ho
          clear h ho
          go_upto_region 17 with (fail)
          have n1_ : Aside0 (Sb.Bs gb w5 wr.drew acc) := ⟨HI.out.below (Below.refl _ _).drew⟩
          have n2_ : Aside0 (wr.drew.heap[gx]? = some (.cells #[.string x0, .string x1, .string x2, .string x3, .string x4] 51 (0, 0))) := ⟨HBX.out⟩
          have n3_ : Aside0 (Below w.heap.size w wr.drew) := ⟨HBW.out.trans (((Below.refl _ _).drew).mono HBW.out.size)⟩
          clear HI HBX HBW c_0 c_1 c_2 c_3 c_4 hxs
          have HI := n1_
          have HBX := n2_
          have HBW := n3_
          clear n1_ n2_ n3_
          refine start_ (n := 9) (S := fun w' => w'.cell? ⟨gx, 0, none⟩ = some (.string x0)) (ds := []) #[false, false, false, false, false, false, false, false, false] (by kernel_rfl) rfl rfl ((blk_cell HBX.out 0).trans rfl) (fun hHeld => ?_)
          refine with_tabW Rs.tab17 Rs.bits17 (fun HT_ HW_ => ?_)
          generalize wr.drew = w8 at HI HBX HBW hHeld ⊢
          refine pure_ (i := 0) (N := some 47) (v := ?_) (a' := ?_) #[true, false, false, false, false, false, false, false, false] rfl rfl (any_of HT_.out (by kernel_rfl)) (fun _ _ _ h => h) (Or.inl ⟨by rfl, ?_⟩) ?_ ?_
          rotate_left
          · intro w'
            go_simp
            with_reducible rfl
          rotate_left
          · simp only [Act.put, List.setIfInBounds_toArray, List.set_cons_zero, List.set_cons_succ, i64_w, i32_w]
            rfl
          refine pure_ (i := 1) (N := some 48) (v := ?_) (a' := ?_) #[true, true, false, false, false, false, false, false, false] rfl rfl (any_of HT_.out (by kernel_rfl)) (fun _ _ _ h => h) (Or.inl ⟨by rfl, ?_⟩) ?_ ?_
          rotate_left
          · intro w'
            go_simp
            with_reducible rfl
          rotate_left
          · simp only [Act.put, List.setIfInBounds_toArray, List.set_cons_zero, List.set_cons_succ, i64_w, i32_w]
            rfl
          refine pure_ (i := 2) (N := some 49) (v := ?_) (a' := ?_) #[true, true, true, false, false, false, false, false, false] rfl rfl (any_of HT_.out (by kernel_rfl)) (fun _ _ _ h => h) (Or.inl ⟨by rfl, ?_⟩) ?_ ?_
          rotate_left
          · intro w'
            go_simp
            with_reducible rfl
          rotate_left
          · simp only [Act.put, List.setIfInBounds_toArray, List.set_cons_zero, List.set_cons_succ, i64_w, i32_w]
            rfl
          refine pure_ (i := 3) (N := some 50) (v := ?_) (a' := ?_) #[true, true, true, true, false, false, false, false, false] rfl rfl (any_of HT_.out (by kernel_rfl)) (fun _ _ _ h => h) (Or.inl ⟨by rfl, ?_⟩) ?_ ?_
          rotate_left
          · intro w'
            go_simp
            with_reducible rfl
          rotate_left
          · simp only [Act.put, List.setIfInBounds_toArray, List.set_cons_zero, List.set_cons_succ, i64_w, i32_w]
            rfl
          refine take_ (i := 4) (N := some 51) (v := ?_) (a' := ?_) #[true, true, true, true, true, false, false, false, false] rfl rfl (take_ofW HT_.out HW_.out (by kernel_rfl)) (fun _ _ _ h => h) (Or.inl ⟨by rfl, ?_⟩) hHeld ?_ ?_
          rotate_left
          · rintro w' h0_
            go_simp
            with_reducible rfl
          rotate_left
          · simp only [Act.put, List.setIfInBounds_toArray, List.set_cons_zero, List.set_cons_succ, i64_w, i32_w]
            rfl
          refine pure_ (i := 5) (N := some 52) (v := ?_) (a' := ?_) #[true, true, true, true, true, true, false, false, false] rfl rfl (any_of HT_.out (by kernel_rfl)) (fun _ _ _ h => h) (Or.inl ⟨by rfl, ?_⟩) ?_ ?_
          rotate_left
          · intro w'
            go_simp
            with_reducible rfl
          rotate_left
          · simp only [Act.put, List.setIfInBounds_toArray, List.set_cons_zero, List.set_cons_succ, i64_w, i32_w]
            rfl
          refine pure_ (i := 6) (N := some 53) (v := ?_) (a' := ?_) #[true, true, true, true, true, true, true, false, false] rfl rfl (any_of HT_.out (by kernel_rfl)) (fun _ _ _ h => h) (Or.inl ⟨by rfl, ?_⟩) ?_ ?_
          rotate_left
          · intro w'
            go_simp
            with_reducible rfl
          rotate_left
          · simp only [Act.put, List.setIfInBounds_toArray, List.set_cons_zero, List.set_cons_succ, i64_w, i32_w]
            rfl
          refine pure_ (i := 7) (N := some 11) (v := ?_) (a' := ?_) #[true, true, true, true, true, true, true, true, false] rfl rfl (any_of HT_.out (by kernel_rfl)) (fun _ _ _ h => h) (Or.inl ⟨by rfl, ?_⟩) ?_ ?_
          rotate_left
          · intro w'
            go_simp
            with_reducible rfl
          rotate_left
          · simp only [Act.put, List.setIfInBounds_toArray, List.set_cons_zero, List.set_cons_succ, i64_w, i32_w]
            rfl
          refine pure_ (i := 8) (N := some 12) (v := ?_) (a' := ?_) #[true, true, true, true, true, true, true, true, true] rfl rfl (any_of HT_.out (by kernel_rfl)) (fun _ _ _ h => h) (Or.inl ⟨by rfl, ?_⟩) ?_ ?_
          rotate_left
          · intro w'
            go_simp
            with_reducible rfl
          rotate_left
          · simp only [Act.put, List.setIfInBounds_toArray, List.set_cons_zero, List.set_cons_succ, i64_w, i32_w]
            rfl
          refine done_ (done_of HT_.out (by kernel_rfl)) ?_
          clear hHeld HT_ HW_
          have hct : (a2 == true) = a2 := by cases a2 <;> rfl
          go_wp2
          go_roundg q1
          case measure => omega
          case rel => exact ⟨z + 1, s, a2, acc, rfl, (by first | rfl | (simp; done) | (simp [*]; done)), by go_num, by omega, by have := HZ.out; have := HZZ.out; omega, ⟨by have := HZ.out; omega⟩, HG2, ⟨by have := HTT.out; omega⟩, HI⟩
        · rw [if_neg ho] at h
          have g1 : op.toList.isEmpty = false := by cases hq : op.toList with | nil => exact absurd hq ho | cons _ _ => rfl
          have g2 : (op.toList == []) = false := beq_eq_false_iff_ne.mpr ho
          have g4 : decide (op.toList = []) = false := decide_eq_false ho
          clear ho
          go_upto_region 17 with (fail)
          have n1_ : Aside0 (Sb.Bs gb w5 wr.drew acc) := ⟨HI.out.below (Below.refl _ _).drew⟩
          have n2_ : Aside0 (wr.drew.heap[gx]? = some (.cells #[.string x0, .string x1, .string x2, .string x3, .string x4] 51 (0, 0))) := ⟨HBX.out⟩
          have n3_ : Aside0 (Below w.heap.size w wr.drew) := ⟨HBW.out.trans (((Below.refl _ _).drew).mono HBW.out.size)⟩
          clear HI HBX HBW c_0 c_1 c_2 c_3 c_4 hxs
          have HI := n1_
          have HBX := n2_
          have HBW := n3_
          clear n1_ n2_ n3_
          refine start_ (n := 9) (S := fun w' => w'.cell? ⟨gx, 0, none⟩ = some (.string x0)) (ds := []) #[false, false, false, false, false, false, false, false, false] (by kernel_rfl) rfl rfl ((blk_cell HBX.out 0).trans rfl) (fun hHeld => ?_)
          refine with_tabW Rs.tab17 Rs.bits17 (fun HT_ HW_ => ?_)
          generalize wr.drew = w8 at HI HBX HBW hHeld ⊢
          refine pure_ (i := 0) (N := some 47) (v := ?_) (a' := ?_) #[true, false, false, false, false, false, false, false, false] rfl rfl (any_of HT_.out (by kernel_rfl)) (fun _ _ _ h => h) (Or.inl ⟨by rfl, ?_⟩) ?_ ?_
          rotate_left
          · intro w'
            go_simp
            with_reducible rfl
          rotate_left
          · simp only [Act.put, List.setIfInBounds_toArray, List.set_cons_zero, List.set_cons_succ, i64_w, i32_w]
            rfl
          refine pure_ (i := 1) (N := some 48) (v := ?_) (a' := ?_) #[true, true, false, false, false, false, false, false, false] rfl rfl (any_of HT_.out (by kernel_rfl)) (fun _ _ _ h => h) (Or.inl ⟨by rfl, ?_⟩) ?_ ?_
          rotate_left
          · intro w'
            go_simp
            with_reducible rfl
          rotate_left
          · simp only [Act.put, List.setIfInBounds_toArray, List.set_cons_zero, List.set_cons_succ, i64_w, i32_w]
            rfl
          refine pure_ (i := 2) (N := some 49) (v := ?_) (a' := ?_) #[true, true, true, false, false, false, false, false, false] rfl rfl (any_of HT_.out (by kernel_rfl)) (fun _ _ _ h => h) (Or.inl ⟨by rfl, ?_⟩) ?_ ?_
          rotate_left
          · intro w'
            go_simp
            with_reducible rfl
          rotate_left
          · simp only [Act.put, List.setIfInBounds_toArray, List.set_cons_zero, List.set_cons_succ, i64_w, i32_w]
            rfl
          refine pure_ (i := 3) (N := some 50) (v := ?_) (a' := ?_) #[true, true, true, true, false, false, false, false, false] rfl rfl (any_of HT_.out (by kernel_rfl)) (fun _ _ _ h => h) (Or.inl ⟨by rfl, ?_⟩) ?_ ?_
          rotate_left
          · intro w'
            go_simp
            with_reducible rfl
          rotate_left
          · simp only [Act.put, List.setIfInBounds_toArray, List.set_cons_zero, List.set_cons_succ, i64_w, i32_w]
            rfl
          refine take_ (i := 4) (N := some 51) (v := ?_) (a' := ?_) #[true, true, true, true, true, false, false, false, false] rfl rfl (take_ofW HT_.out HW_.out (by kernel_rfl)) (fun _ _ _ h => h) (Or.inl ⟨by rfl, ?_⟩) hHeld ?_ ?_
          rotate_left
          · rintro w' h0_
            go_simp
            with_reducible rfl
          rotate_left
          · simp only [Act.put, List.setIfInBounds_toArray, List.set_cons_zero, List.set_cons_succ, i64_w, i32_w]
            rfl
          refine pure_ (i := 5) (N := some 52) (v := ?_) (a' := ?_) #[true, true, true, true, true, true, false, false, false] rfl rfl (any_of HT_.out (by kernel_rfl)) (fun _ _ _ h => h) (Or.inl ⟨by rfl, ?_⟩) ?_ ?_
          rotate_left
          · intro w'
            go_simp
            with_reducible rfl
          rotate_left
          · simp only [Act.put, List.setIfInBounds_toArray, List.set_cons_zero, List.set_cons_succ, i64_w, i32_w]
            rfl
          refine pure_ (i := 6) (N := some 53) (v := ?_) (a' := ?_) #[true, true, true, true, true, true, true, false, false] rfl rfl (any_of HT_.out (by kernel_rfl)) (fun _ _ _ h => h) (Or.inl ⟨by rfl, ?_⟩) ?_ ?_
          rotate_left
          · intro w'
            go_simp
            with_reducible rfl
          rotate_left
          · simp only [Act.put, List.setIfInBounds_toArray, List.set_cons_zero, List.set_cons_succ, i64_w, i32_w]
            rfl
          refine pure_ (i := 7) (N := some 11) (v := ?_) (a' := ?_) #[true, true, true, true, true, true, true, true, false] rfl rfl (any_of HT_.out (by kernel_rfl)) (fun _ _ _ h => h) (Or.inl ⟨by rfl, ?_⟩) ?_ ?_
          rotate_left
          · intro w'
            go_simp
            with_reducible rfl
          rotate_left
          · simp only [Act.put, List.setIfInBounds_toArray, List.set_cons_zero, List.set_cons_succ, i64_w, i32_w]
            rfl
          refine pure_ (i := 8) (N := some 12) (v := ?_) (a' := ?_) #[true, true, true, true, true, true, true, true, true] rfl rfl (any_of HT_.out (by kernel_rfl)) (fun _ _ _ h => h) (Or.inl ⟨by rfl, ?_⟩) ?_ ?_
          rotate_left
          · intro w'
            go_simp
            with_reducible rfl
          rotate_left
          · simp only [Act.put, List.setIfInBounds_toArray, List.set_cons_zero, List.set_cons_succ, i64_w, i32_w]
            rfl
          refine done_ (done_of HT_.out (by kernel_rfl)) ?_
          clear hHeld HT_ HW_
          injection h with h1 h2
          subst h1 h2
          go_wp2
          go_ret2
          exact ⟨_, rfl, ⟨_, rfl, HBW.out.size, World.alloc_heap_new _ _⟩, HBW.out.alloc HBW.out.size _⟩
      rw [if_neg e0] at h
      have e0a : (s.toList == x0.toList) = false := beq_eq_false_iff_ne.mpr e0
      have e0b : (s.toList != x0.toList) = true := bne_iff_ne.mpr e0
      clear e0
      by_cases e1 : s.toList = x1.toList
      · rw [if_pos e1] at h
        have e1a : (s.toList == x1.toList) = true := beq_iff_eq.mpr e1
        have e1b : (s.toList != x1.toList) = false := bne_eq_false_iff_eq.mpr e1
        clear e1
        by_cases ho : op.toList = []
        · rw [if_pos ho] at h
          have HG2 := Aside0.mk h
          have g1 : op.toList.isEmpty = true := by rw [ho]; rfl
          have g2 : (op.toList == []) = true := by rw [ho]; rfl
          have g4 : decide (op.toList = []) = true := decide_eq_true ho
          clear h ho
          go_upto_region 17 with (fail)
          have n1_ : Aside0 (Sb.Bs gb w5 wr.drew acc) := ⟨HI.out.below (Below.refl _ _).drew⟩
          have n2_ : Aside0 (wr.drew.heap[gx]? = some (.cells #[.string x0, .string x1, .string x2, .string x3, .string x4] 51 (0, 0))) := ⟨HBX.out⟩
          have n3_ : Aside0 (Below w.heap.size w wr.drew) := ⟨HBW.out.trans (((Below.refl _ _).drew).mono HBW.out.size)⟩
          clear HI HBX HBW c_0 c_1 c_2 c_3 c_4 hxs
          have HI := n1_
          have HBX := n2_
          have HBW := n3_
          clear n1_ n2_ n3_
          refine start_ (n := 9) (S := fun w' => w'.cell? ⟨gx, 0, none⟩ = some (.string x0)) (ds := []) #[false, false, false, false, false, false, false, false, false] (by kernel_rfl) rfl rfl ((blk_cell HBX.out 0).trans rfl) (fun hHeld => ?_)
          refine with_tabW Rs.tab17 Rs.bits17 (fun HT_ HW_ => ?_)
          generalize wr.drew = w8 at HI HBX HBW hHeld ⊢
          refine pure_ (i := 0) (N := some 47) (v := ?_) (a' := ?_) #[true, false, false, false, false, false, false, false, false] rfl rfl (any_of HT_.out (by kernel_rfl)) (fun _ _ _ h => h) (Or.inl ⟨by rfl, ?_⟩) ?_ ?_
          rotate_left
          · intro w'
            go_simp
            with_reducible rfl
          rotate_left
          · simp only [Act.put, List.setIfInBounds_toArray, List.set_cons_zero, List.set_cons_succ, i64_w, i32_w]
            rfl
          refine pure_ (i := 1) (N := some 48) (v := ?_) (a' := ?_) #[true, true, false, false, false, false, false, false, false] rfl rfl (any_of HT_.out (by kernel_rfl)) (fun _ _ _ h => h) (Or.inl ⟨by rfl, ?_⟩) ?_ ?_
          rotate_left
          · intro w'
            go_simp
            with_reducible rfl
          rotate_left
          · simp only [Act.put, List.setIfInBounds_toArray, List.set_cons_zero, List.set_cons_succ, i64_w, i32_w]
            rfl
          refine pure_ (i := 2) (N := some 49) (v := ?_) (a' := ?_) #[true, true, true, false, false, false, false, false, false] rfl rfl (any_of HT_.out (by kernel_rfl)) (fun _ _ _ h => h) (Or.inl ⟨by rfl, ?_⟩) ?_ ?_
          rotate_left
          · intro w'
            go_simp
            with_reducible rfl
          rotate_left
          · simp only [Act.put, List.setIfInBounds_toArray, List.set_cons_zero, List.set_cons_succ, i64_w, i32_w]
            rfl
          refine pure_ (i := 3) (N := some 50) (v := ?_) (a' := ?_) #[true, true, true, true, false, false, false, false, false] rfl rfl (any_of HT_.out (by kernel_rfl)) (fun _ _ _ h => h) (Or.inl ⟨by rfl, ?_⟩) ?_ ?_
          rotate_left
          · intro w'
            go_simp
            with_reducible rfl
          rotate_left
          · simp only [Act.put, List.setIfInBounds_toArray, List.set_cons_zero, List.set_cons_succ, i64_w, i32_w]
            rfl
          refine take_ (i := 4) (N := some 51) (v := ?_) (a' := ?_) #[true, true, true, true, true, false, false, false, false] rfl rfl (take_ofW HT_.out HW_.out (by kernel_rfl)) (fun _ _ _ h => h) (Or.inl ⟨by rfl, ?_⟩) hHeld ?_ ?_
          rotate_left
          · rintro w' h0_
            go_simp
            with_reducible rfl
          rotate_left
          · simp only [Act.put, List.setIfInBounds_toArray, List.set_cons_zero, List.set_cons_succ, i64_w, i32_w]
            rfl
          refine pure_ (i := 5) (N := some 52) (v := ?_) (a' := ?_) #[true, true, true, true, true, true, false, false, false] rfl rfl (any_of HT_.out (by kernel_rfl)) (fun _ _ _ h => h) (Or.inl ⟨by rfl, ?_⟩) ?_ ?_
          rotate_left
          · intro w'
            go_simp
            with_reducible rfl
          rotate_left
          · simp only [Act.put, List.setIfInBounds_toArray, List.set_cons_zero, List.set_cons_succ, i64_w, i32_w]
            rfl
          refine pure_ (i := 6) (N := some 53) (v := ?_) (a' := ?_) #[true, true, true, true, true, true, true, false, false] rfl rfl (any_of HT_.out (by kernel_rfl)) (fun _ _ _ h => h) (Or.inl ⟨by rfl, ?_⟩) ?_ ?_
          rotate_left
          · intro w'
            go_simp
            with_reducible rfl
          rotate_left
          · simp only [Act.put, List.setIfInBounds_toArray, List.set_cons_zero, List.set_cons_succ, i64_w, i32_w]
            rfl
          refine pure_ (i := 7) (N := some 11) (v := ?_) (a' := ?_) #[true, true, true, true, true, true, true, true, false] rfl rfl (any_of HT_.out (by kernel_rfl)) (fun _ _ _ h => h) (Or.inl ⟨by rfl, ?_⟩) ?_ ?_
          rotate_left
          · intro w'
            go_simp
            with_reducible rfl
          rotate_left
          · simp only [Act.put, List.setIfInBounds_toArray, List.set_cons_zero, List.set_cons_succ, i64_w, i32_w]
            rfl
          refine pure_ (i := 8) (N := some 12) (v := ?_) (a' := ?_) #[true, true, true, true, true, true, true, true, true] rfl rfl (any_of HT_.out (by kernel_rfl)) (fun _ _ _ h => h) (Or.inl ⟨by rfl, ?_⟩) ?_ ?_
          rotate_left
          · intro w'
            go_simp
            with_reducible rfl
          rotate_left
          · simp only [Act.put, List.setIfInBounds_toArray, List.set_cons_zero, List.set_cons_succ, i64_w, i32_w]
            rfl
          refine done_ (done_of HT_.out (by kernel_rfl)) ?_
          clear hHeld HT_ HW_
          have hct : (a2 == false) = !a2 := by cases a2 <;> rfl
          go_wp2
          go_roundg q1
          case measure => omega
          case rel => exact ⟨z + 1, s, !a2, acc, rfl, (by first | rfl | (simp; done) | (simp [*]; done)), by go_num, by omega, by have := HZ.out; have := HZZ.out; omega, ⟨by have := HZ.out; omega⟩, HG2, ⟨by have := HTT.out; omega⟩, HI⟩
        · rw [if_neg ho] at h
          have g1 : op.toList.isEmpty = false := by cases hq : op.toList with | nil => exact absurd hq ho | cons _ _ => rfl
          have g2 : (op.toList == []) = false := beq_eq_false_iff_ne.mpr ho
          have g4 : decide (op.toList = []) = false := decide_eq_false ho
          clear ho
          go_upto_region 17 with (fail)
          have n1_ : Aside0 (Sb.Bs gb w5 wr.drew acc) := ⟨HI.out.below (Below.refl _ _).drew⟩
          have n2_ : Aside0 (wr.drew.heap[gx]? = some (.cells #[.string x0, .string x1, .string x2, .string x3, .string x4] 51 (0, 0))) := ⟨HBX.out⟩
          have n3_ : Aside0 (Below w.heap.size w wr.drew) := ⟨HBW.out.trans (((Below.refl _ _).drew).mono HBW.out.size)⟩
          clear HI HBX HBW c_0 c_1 c_2 c_3 c_4 hxs
          have HI := n1_
          have HBX := n2_
          have HBW := n3_
          clear n1_ n2_ n3_
          refine start_ (n := 9) (S := fun w' => w'.cell? ⟨gx, 0, none⟩ = some (.string x0)) (ds := []) #[false, false, false, false, false, false, false, false, false] (by kernel_rfl) rfl rfl ((blk_cell HBX.out 0).trans rfl) (fun hHeld => ?_)
          refine with_tabW Rs.tab17 Rs.bits17 (fun HT_ HW_ => ?_)
          generalize wr.drew = w8 at HI HBX HBW hHeld ⊢
          refine pure_ (i := 0) (N := some 47) (v := ?_) (a' := ?_) #[true, false, false, false, false, false, false, false, false] rfl rfl (any_of HT_.out (by kernel_rfl)) (fun _ _ _ h => h) (Or.inl ⟨by rfl, ?_⟩) ?_ ?_
          rotate_left
          · intro w'
            go_simp
            with_reducible rfl
          rotate_left
          · simp only [Act.put, List.setIfInBounds_toArray, List.set_cons_zero, List.set_cons_succ, i64_w, i32_w]
            rfl
          refine pure_ (i := 1) (N := some 48) (v := ?_) (a' := ?_) #[true, true, false, false, false, false, false, false, false] rfl rfl (any_of HT_.out (by kernel_rfl)) (fun _ _ _ h => h) (Or.inl ⟨by rfl, ?_⟩) ?_ ?_
          rotate_left
          · intro w'
            go_simp
            with_reducible rfl
          rotate_left
          · simp only [Act.put, List.setIfInBounds_toArray, List.set_cons_zero, List.set_cons_succ, i64_w, i32_w]
            rfl
          refine pure_ (i := 2) (N := some 49) (v := ?_) (a' := ?_) #[true, true, true, false, false, false, false, false, false] rfl rfl (any_of HT_.out (by kernel_rfl)) (fun _ _ _ h => h) (Or.inl ⟨by rfl, ?_⟩) ?_ ?_
          rotate_left
          · intro w'
            go_simp
            with_reducible rfl
          rotate_left
          · simp only [Act.put, List.setIfInBounds_toArray, List.set_cons_zero, List.set_cons_succ, i64_w, i32_w]
            rfl
          refine pure_ (i := 3) (N := some 50) (v := ?_) (a' := ?_) #[true, true, true, true, false, false, false, false, false] rfl rfl (any_of HT_.out (by kernel_rfl)) (fun _ _ _ h => h) (Or.inl ⟨by rfl, ?_⟩) ?_ ?_
          rotate_left
          · intro w'
            go_simp
            with_reducible rfl
          rotate_left
          · simp only [Act.put, List.setIfInBounds_toArray, List.set_cons_zero, List.set_cons_succ, i64_w, i32_w]
            rfl
          refine take_ (i := 4) (N := some 51) (v := ?_) (a' := ?_) #[true, true, true, true, true, false, false, false, false] rfl rfl (take_ofW HT_.out HW_.out (by kernel_rfl)) (fun _ _ _ h => h) (Or.inl ⟨by rfl, ?_⟩) hHeld ?_ ?_
          rotate_left
          · rintro w' h0_
            go_simp
            with_reducible rfl
          rotate_left
          · simp only [Act.put, List.setIfInBounds_toArray, List.set_cons_zero, List.set_cons_succ, i64_w, i32_w]
            rfl
          refine pure_ (i := 5) (N := some 52) (v := ?_) (a' := ?_) #[true, true, true, true, true, true, false, false, false] rfl rfl (any_of HT_.out (by kernel_rfl)) (fun _ _ _ h => h) (Or.inl ⟨by rfl, ?_⟩) ?_ ?_
          rotate_left
          · intro w'
            go_simp
            with_reducible rfl
          rotate_left
          · simp only [Act.put, List.setIfInBounds_toArray, List.set_cons_zero, List.set_cons_succ, i64_w, i32_w]
            rfl
          refine pure_ (i := 6) (N := some 53) (v := ?_) (a' := ?_) #[true, true, true, true, true, true, true, false, false] rfl rfl (any_of HT_.out (by kernel_rfl)) (fun _ _ _ h => h) (Or.inl ⟨by rfl, ?_⟩) ?_ ?_
          rotate_left
          · intro w'
            go_simp
            with_reducible rfl
          rotate_left
          · simp only [Act.put, List.setIfInBounds_toArray, List.set_cons_zero, List.set_cons_succ, i64_w, i32_w]
            rfl
          refine pure_ (i := 7) (N := some 11) (v := ?_) (a' := ?_) #[true, true, true, true, true, true, true, true, false] rfl rfl (any_of HT_.out (by kernel_rfl)) (fun _ _ _ h => h) (Or.inl ⟨by rfl, ?_⟩) ?_ ?_
          rotate_left
          · intro w'
            go_simp
            with_reducible rfl
          rotate_left
          · simp only [Act.put, List.setIfInBounds_toArray, List.set_cons_zero, List.set_cons_succ, i64_w, i32_w]
            rfl
          refine pure_ (i := 8) (N := some 12) (v := ?_) (a' := ?_) #[true, true, true, true, true, true, true, true, true] rfl rfl (any_of HT_.out (by kernel_rfl)) (fun _ _ _ h => h) (Or.inl ⟨by rfl, ?_⟩) ?_ ?_
          rotate_left
          · intro w'
            go_simp
            with_reducible rfl
          rotate_left
          · simp only [Act.put, List.setIfInBounds_toArray, List.set_cons_zero, List.set_cons_succ, i64_w, i32_w]
            rfl
          refine done_ (done_of HT_.out (by kernel_rfl)) ?_
          clear hHeld HT_ HW_
          injection h with h1 h2
          subst h1 h2
          go_wp2
          go_ret2
          exact ⟨_, rfl, ⟨_, rfl, HBW.out.size, World.alloc_heap_new _ _⟩, HBW.out.alloc HBW.out.size _⟩
      rw [if_neg e1] at h
      have e1a : (s.toList == x1.toList) = false := beq_eq_false_iff_ne.mpr e1
      have e1b : (s.toList != x1.toList) = true := bne_iff_ne.mpr e1
      clear e1
      by_cases e2 : s.toList = x2.toList
      · rw [if_pos e2] at h
        have e2a : (s.toList == x2.toList) = true := beq_iff_eq.mpr e2
        have e2b : (s.toList != x2.toList) = false := bne_eq_false_iff_eq.mpr e2
        clear e2
        by_cases ho : op.toList = x1.toList
        · rw [if_pos ho] at h
          have HG2 := Aside0.mk h
          have hoa : (op.toList == x1.toList) = true := beq_iff_eq.mpr ho
          have hob : (op.toList != x1.toList) = false := bne_eq_false_iff_eq.mpr ho
          clear ho
          clear h
          go_wp2
          go_roundg q1
          case measure => omega
          case rel => exact ⟨z + 1, s, a2, acc, rfl, rfl, by go_num, by omega, by have := HZ.out; have := HZZ.out; omega, ⟨by have := HZ.out; omega⟩, HG2, ⟨by have := HTT.out; omega⟩, HI⟩
        · rw [if_neg ho] at h
          have hoa : (op.toList == x1.toList) = false := beq_eq_false_iff_ne.mpr ho
          have hob : (op.toList != x1.toList) = true := bne_iff_ne.mpr ho
          clear ho
          injection h with h1 h2
          subst h1 h2
          go_wp2
          go_ret2
          exact ⟨_, rfl, ⟨_, rfl, HBW.out.size, World.alloc_heap_new _ _⟩, HBW.out.alloc HBW.out.size _⟩
      rw [if_neg e2] at h
      have e2a : (s.toList == x2.toList) = false := beq_eq_false_iff_ne.mpr e2
      have e2b : (s.toList != x2.toList) = true := bne_iff_ne.mpr e2
      clear e2
      by_cases e3 : s.toList = x3.toList
      · rw [if_pos e3] at h
        have e3a : (s.toList == x3.toList) = true := beq_iff_eq.mpr e3
        have e3b : (s.toList != x3.toList) = false := bne_eq_false_iff_eq.mpr e3
        clear e3
        by_cases ho : op.toList = x0.toList
        · rw [if_pos (.inl ho)] at h
          have HG2 := Aside0.mk h
          have hoa : (op.toList == x0.toList) = true := beq_iff_eq.mpr ho
          have hob : (op.toList != x0.toList) = false := bne_eq_false_iff_eq.mpr ho
          clear ho
          clear h
          go_wp2
          go_roundg q1
          case measure => omega
          case rel => exact ⟨z + 1, ⟨#[]⟩, true, acc, rfl, rfl, by go_num, by omega, by have := HZ.out; have := HZZ.out; omega, ⟨by have := HZ.out; omega⟩, HG2, ⟨by have := HTT.out; omega⟩, HI⟩
        by_cases hq : op.toList = x2.toList
        · rw [if_pos (.inr hq)] at h
          have HG2 := Aside0.mk h
          have hoa : (op.toList == x0.toList) = false := beq_eq_false_iff_ne.mpr ho
          have hob : (op.toList != x0.toList) = true := bne_iff_ne.mpr ho
          clear ho
          have hqa : (op.toList == x2.toList) = true := beq_iff_eq.mpr hq
          have hqb : (op.toList != x2.toList) = false := bne_eq_false_iff_eq.mpr hq
          clear hq
          clear h
          go_wp2
          go_roundg q1
          case measure => omega
          case rel => exact ⟨z + 1, ⟨#[]⟩, true, acc, rfl, rfl, by go_num, by omega, by have := HZ.out; have := HZZ.out; omega, ⟨by have := HZ.out; omega⟩, HG2, ⟨by have := HTT.out; omega⟩, HI⟩
        · rw [if_neg (fun e => e.elim ho hq)] at h
          have hoa : (op.toList == x0.toList) = false := beq_eq_false_iff_ne.mpr ho
          have hob : (op.toList != x0.toList) = true := bne_iff_ne.mpr ho
          clear ho
          have hqa : (op.toList == x2.toList) = false := beq_eq_false_iff_ne.mpr hq
          have hqb : (op.toList != x2.toList) = true := bne_iff_ne.mpr hq
          clear hq
          injection h with h1 h2
          subst h1 h2
          go_wp2
          go_ret2
          exact ⟨_, rfl, ⟨_, rfl, HBW.out.size, World.alloc_heap_new _ _⟩, HBW.out.alloc HBW.out.size _⟩
      rw [if_neg e3] at h
      have e3a : (s.toList == x3.toList) = false := beq_eq_false_iff_ne.mpr e3
      have e3b : (s.toList != x3.toList) = true := bne_iff_ne.mpr e3
      clear e3
      by_cases e4 : s.toList = x4.toList
      · rw [if_pos e4] at h
        have e4a : (s.toList == x4.toList) = true := beq_iff_eq.mpr e4
        have e4b : (s.toList != x4.toList) = false := bne_eq_false_iff_eq.mpr e4
        clear e4
        by_cases ho : op.toList = x1.toList
        · rw [if_pos ho] at h
          have HG2 := Aside0.mk h
          have hoa : (op.toList == x1.toList) = true := beq_iff_eq.mpr ho
          have hob : (op.toList != x1.toList) = false := bne_eq_false_iff_eq.mpr ho
          clear ho
          clear h
          go_wp2
          go_roundg q1
          case measure => omega
          case rel => exact ⟨z + 1, ⟨#[]⟩, true, acc, rfl, rfl, by go_num, by omega, by have := HZ.out; have := HZZ.out; omega, ⟨by have := HZ.out; omega⟩, HG2, ⟨by have := HTT.out; omega⟩, HI⟩
        · rw [if_neg ho] at h
          have hoa : (op.toList == x1.toList) = false := beq_eq_false_iff_ne.mpr ho
          have hob : (op.toList != x1.toList) = true := bne_iff_ne.mpr ho
          clear ho
          injection h with h1 h2
          subst h1 h2
          go_wp2
          go_ret2
          exact ⟨_, rfl, ⟨_, rfl, HBW.out.size, World.alloc_heap_new _ _⟩, HBW.out.alloc HBW.out.size _⟩
      rw [if_neg e4] at h
      have e4a : (s.toList == x4.toList) = false := beq_eq_false_iff_ne.mpr e4
      have e4b : (s.toList != x4.toList) = true := bne_iff_ne.mpr e4
      clear e4
      cases ct with
      | true =>
        rw [if_pos rfl] at h
        have HG2 := Aside0.mk h
        have HLS : Aside0 (acc.length + s.size ≤ 140737488355328) := ⟨by have := HTT.out; omega⟩
        clear h
        go_wp2_with (go_at_call 20; refine (Sb.write gb w5 acc s _ HI.out HLS.out).mono ?_; rintro e w8 ⟨rfl, hx8, hf8⟩; have HI8 := Aside0.mk hx8; clear hx8 hf8)
        go_roundg q1
        case measure => omega
        case rel => exact ⟨z + 1, op, true, acc ++ s.data.toList, rfl, rfl, by go_num, by omega, by have := HZ.out; have := HZZ.out; omega, ⟨by have := HZ.out; omega⟩, HG2, ⟨by rw [List.length_append, ← Lib.size_eq]; have := HTT.out; omega⟩, HI8⟩
      | false =>
        rw [if_neg Bool.false_ne_true] at h
        have HG2 := Aside0.mk h
        clear h
        go_wp2
        go_roundg q1
        case measure => omega
        case rel => exact ⟨z + 1, op, false, acc, rfl, rfl, by go_num, by omega, by have := HZ.out; have := HZZ.out; omega, ⟨by have := HZ.out; omega⟩, HG2, ⟨by have := HTT.out; omega⟩, HI⟩
def views_ResolveN.f (a0 a1 : ByteArray) (a2 : Bool) : Option (ByteArray × Option Int) := (views_Resolve.f a0 a1 a2).bind fun r => match r.2 with | none => some (r.1, none) | some _ => none
theorem views_ResolveN.calls (a0 a1 : ByteArray) (a2 : Bool) (r1 : ByteArray) (r2 : Option Int) (w : World) (h : views_ResolveN.f a0 a1 a2 = some (r1, r2)) :
    Calls Tryd.prog 7 #[.string a0, .string a1, .bool a2] w fun e w' => e = .returned (.tuple #[.string r1, errW r2]) ∧ Below w.heap.size w w' := by
  obtain ⟨⟨x, f⟩, hx, h⟩ := Option.bind_eq_some_iff.mp h
  cases f with
  | none =>
    injection h with h
    injection h with h1 h2
    subst h1 h2
    refine (views_Resolve.calls a0 a1 a2 x none w hx).mono ?_
    rintro e w' ⟨v, rfl, hv, hb⟩
    exact ⟨by rw [show v = .nilIface from hv]; rfl, hb⟩
  | some q => cases h
end Go.Proofs.YtchhelmilbheoaaDoor.X
