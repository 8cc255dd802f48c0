import Derived.Test.YtglffceopijogaaDoorZPXx0
import Derived.Test.YtglffceopijogaaDoorZPXx20
import Derived.Test.YtglffceopijogaaDoorZPXx29
namespace Go.Proofs.YtglffceopijogaaDoor.X
open Go.RowKit Go.Proofs.YtglffceopijogaaDoorW.PrintWords Go.Proofs.YtglffceopijogaaDoorW.PrintLast Go.Proofs.YtglffceopijogaaDoorW.PrintMore
attribute [local go_sem] max2_int min2_int max_two min_two max_three min_three max_four min_four   -- for this text's walks alone
open Go.Proofs.YtglffceopijogaaDoorW.HandWords
set_option linter.unusedVariables false
set_option linter.unusedSimpArgs false
namespace Ct
theorem row_cells {w : World} {B n A c : Nat} {xs : List ByteArray} {e : TypeId} (h : w.ownsRow B e 1 (.slice (some ⟨A, 0, none⟩) n c) n (xs.map Value.string)) : A < w.heap.size ∧ n = xs.length ∧ n ≤ c ∧ ∃ cur, w.heap[A]? = some (.cells cur e (0, 0)) ∧ ∀ (j : Nat) x, xs[j]? = some x → cur[j]? = some (.string x) := by
  have hl : xs.length = n := by have := h.1; simpa using this
  rcases h.2 with ⟨e1, e2⟩ | ⟨g, cap, cur, e1, hb, hg, rest⟩
  · cases e1
  · injection e1 with e1 e2 e3
    cases e1
    subst e3
    refine ⟨blk_lt hg, hl.symm, rest.1, cur, hg, fun j x hj => ?_⟩
    have hjl : j < n := by have := (List.getElem?_eq_some_iff.1 hj).1; omega
    have h2 := congrArg (fun l => l[j]?) rest.2.2.2
    simp only [List.getElem?_map, hj, Option.map_some] at h2
    rw [List.getElem?_take_of_lt (by omega)] at h2
    rw [← Array.getElem?_toList]
    exact h2
set_option maxHeartbeats 2000000 in
set_option maxRecDepth 100000 in
theorem pieces (s : ByteArray) (w : World) (hs : s.size ≤ 4294967296) :
    Calls Tryd.prog 53 #[.string s] w fun e w' => ∃ A, e = .returned (.slice (some ⟨A, 0, none⟩) (Lib.goFieldsP Ca.wh s).length (Lib.goFieldsP Ca.wh s).length) ∧ w.heap.size ≤ A ∧
      w'.ownsRow w.heap.size 9 1 (.slice (some ⟨A, 0, none⟩) (Lib.goFieldsP Ca.wh s).length (Lib.goFieldsP Ca.wh s).length) (Lib.goFieldsP Ca.wh s).length ((Lib.goFieldsP Ca.wh s).map Value.string) ∧ Below w.heap.size w w' := by
  obtain ⟨ys, hys⟩ : ∃ ys, Lib.goFieldsP Ca.wh s = ys := ⟨_, rfl⟩
  have hc := Tryd.strings_FieldsFunc_grows 55 #[] (enters_of Tryd.func55 (by kernel_rfl) rfl) Ca.wh s w hs (fun W x hx _ => Cw.white x W hx)
  rw [hys] at hc ⊢
  go_enter Tryd.func53, Tryd.ntmps53
  go_wp2_with (go_at_call 64; refine hc.mono ?_; rintro e w' ⟨A, rfl, h1, h2, h3⟩)
  go_ret
  exact ⟨A, rfl, h1, h2, h3⟩
set_option maxHeartbeats 4000000 in
set_option maxRecDepth 100000 in
theorem strip (s : ByteArray) (w : World) (hs : s.size ≤ 1000000000) :
    Calls Tryd.prog 41 #[.string s] w fun e w' => e = .returned (.string ⟨(s.data.toList.filter (fun b => !Ca.wb b)).toArray⟩) ∧ Below w.heap.size w w' := by
  have HB := Aside0.mk (Below.refl w.heap.size w)
  have hfl := Ca.flat_map s
  have hfle := Ca.flat_le s
  have hyl := Ca.pc_len s
  have hpc := fun w => pieces s w (by omega)
  obtain ⟨ys, hys⟩ : ∃ ys, Lib.goFieldsP Ca.wh s = ys := ⟨_, rfl⟩
  rw [hys] at hfl hfle hyl
  have HYL := Aside0.mk (show ys.length ≤ 1000000001 by omega)
  obtain ⟨T, hT⟩ : ∃ T, s.data.toList.filter (fun b => !Ca.wb b) = T := ⟨_, rfl⟩
  rw [hT] at hfl ⊢
  rw [hfl] at hfle
  have HFL := Aside0.mk hfl
  have HFS := Aside0.mk (show T.length ≤ 1000000000 by omega)
  clear hT hfl hfle hs hyl
  simp only [hys] at hpc
  go_enter Tryd.func41, Tryd.ntmps41
  go_wp2_with (first | ((with_reducible refine gate_dst (N := 3) rfl ?_); refine box_event ?hg (N := 3) ?hd (cs := #[.pointer none, .slice none 0 0]) (t := 53) ?hr ?_; (case hd => rfl); (case hg => rfl); (case hr => first | (go_simp; done) | (go_simp; rfl)); intro gb hg w3 hbox hb; have GB := Aside0.mk (by rw [hg]; exact HB.out.size : w.heap.size ≤ gb); have n1_ := Aside0.mk (below_step HB.out hb); clear HB; have HI : Aside0 (Sb.Bs gb w w3 []) := ⟨⟨.inl ⟨GB.out, .slice none 0 0, hbox, Go.World.ownsRow_nil _ _ _ _, by simp [Value.ownBlock]⟩, n1_.out⟩⟩; clear n1_ hbox hg hb) | (go_at_call 53; refine (hpc _).mono ?_; rintro e w4 ⟨A, rfl, h1, h2, hb⟩; have n1_ := Aside0.mk (HI.out.below hb); clear HI hpc; have HI := n1_; clear n1_; have HRC := Aside0.mk (row_cells h2); have HNE := Aside0.mk (show gb ≠ A by obtain ⟨cs_, hc_⟩ := Sb.is_cell HI.out.i; obtain ⟨cur_, hc2_, _⟩ := HRC.out.2.2.2; intro e_; subst e_; rw [hc_] at hc2_; injection hc2_ with hc2_; injection hc2_ with _ h4 _; exact absurd h4 (by decide)); clear h1 h2 hb))
  obtain ⟨ha1, ha2, ha3, cur, hcur, hget⟩ := HRC.out
  have HP := Aside0.mk hcur
  have HG := Aside0.mk hget
  clear HRC ha1 ha2 ha3 hcur hget
  go_loopg [9] ys.length (fun q v9 w' => ∃ (z : Int) (acc : List UInt8), v9 = .int .i64 z ∧ 0 ≤ z ∧ z ≤ 1000000000000 ∧ Aside0 (z + (q : Int) = ys.length) ∧ Aside0 (acc ++ (ys.drop z.toNat).flatMap (fun x => x.data.toList) = T) ∧ Aside0 (Sb.Bs gb w w' acc) ∧ Aside0 (w'.heap[A]? = some (.cells cur 9 (0, 0))))
  case atStart => exact ⟨0, [], rfl, by omega, by omega, ⟨by omega⟩, ⟨by rw [List.nil_append]; exact HFL.out⟩, HI, HP⟩
  case round =>
    clear HI HP
    obtain ⟨z, acc, rfl, hz1, hz2, HZ, HE, HI, HP⟩ := hrel
    cases gk with
    | zero =>
      have hzl : z = (ys.length : Int) := by have := HZ.out; omega
      subst hzl
      have hp : ((ys.length : Int) < (ys.length : Int)) = False := eq_false (Int.lt_irrefl _)
      have h := HE.out
      rw [Int.toNat_natCast, List.drop_length, List.flatMap_nil, List.append_nil] at h
      subst h
      go_wp2_with (go_at_call 38; (with_reducible refine (Tryd.Builder_String_any w.heap.size gb acc _ HI.out.i HI.out.b_.size).mono ?_); rintro e w9 ⟨rfl, hb⟩; have HEND := Aside0.mk (HI.out.b_.trans hb); clear hb)
      go_ret
      exact ⟨rfl, HEND.out⟩
    | succ q1 =>
      have hzl : decide (z < (ys.length : Int)) = true := decide_eq_true (by have := HZ.out; omega)
      have hz3 := of_decide_eq_true hzl
      obtain ⟨x, hx⟩ : ∃ x, ys[z.toNat]? = some x := ⟨_, List.getElem?_eq_getElem (by omega)⟩
      have hd : ys.drop z.toNat = x :: ys.drop (z + 1).toNat := by
        rw [show (z + 1).toNat = z.toNat + 1 by omega, List.drop_eq_getElem_cons (by omega)]
        rw [List.getElem?_eq_getElem (by omega)] at hx
        injection hx with hx
        rw [hx]
      have he := HE.out
      rw [hd, List.flatMap_cons, ← List.append_assoc] at he
      have HE2 := Aside0.mk he
      have hlen : acc.length + x.size ≤ 1000000000 := by
        have h := congrArg List.length he
        rw [List.length_append, List.length_append, ← Lib.size_eq] at h
        have := HFS.out
        omega
      have HLEN := Aside0.mk hlen
      have hxs := (blk_cell HP.out z.toNat).trans (HG.out _ _ hx)
      have p1 := eq_true hz1
      have p2 := eq_true hz3
      have hw : wrap64 (z + 1) = z + 1 := by unfold wrap64; omega
      have HW := Aside0.mk hw
      clear he hd hx hlen hw HE
      go_wp2_with (go_at_call 35; (with_reducible refine (Sb.write gb w acc x _ HI.out (by have := HLEN.out; omega)).mono ?_); rintro e w7 ⟨rfl, hi, hf⟩; have n1_ := Aside0.mk (hf A cur 9 (fun e_ => HNE.out e_.symm) (by decide) HP.out); clear HI HP hxs; have HI := Aside0.mk hi; have HP := n1_; clear hi hf n1_)
      go_roundg q1
      case measure => omega
      case rel => exact ⟨z + 1, _, by go_num, by omega, by have := HZ.out; have := HYL.out; omega, ⟨by have := HZ.out; omega⟩, HE2, HI, HP⟩
set_option maxHeartbeats 4000000 in
set_option maxRecDepth 100000 in
theorem squeeze (s : ByteArray) (w : World) (hs : s.size ≤ 1000000000) :
    Calls Tryd.prog 42 #[.string s] w fun e w' => e = .returned (.string ⟨(Ca.sq s.data.toList).toArray⟩) ∧ Below w.heap.size w w' := by
  have HB := Aside0.mk (Below.refl w.heap.size w)
  have hjl := Ca.sq_len s
  have hyl := Ca.pc_len s
  have hpe := Ca.pieces s
  have hpc := fun w => pieces s w (by omega)
  obtain ⟨ys, hys⟩ : ∃ ys, Lib.goFieldsP Ca.wh s = ys := ⟨_, rfl⟩
  rw [hys] at hjl hyl hpe
  simp only [hys] at hpc
  obtain ⟨O, hO⟩ : ∃ O : ByteArray, (⟨(Lib.join (ys.map (·.data.toList)) (⟨#[32]⟩ : ByteArray).data.toList).toArray⟩ : ByteArray) = O := ⟨_, rfl⟩
  have hOl : O.data.toList = Lib.join (Ca.sp [] s.data.toList) [32] := by rw [← hO, ← hpe]
  have HO := Aside0.mk hO
  have HJL := Aside0.mk (show (Lib.join (ys.map (·.data.toList)) (⟨#[32]⟩ : ByteArray).data.toList).length ≤ 140737488355328 from by
    have : (Lib.join (ys.map (·.data.toList)) [32]).length ≤ 140737488355328 := by omega
    exact this)
  have HYL := Aside0.mk (show ys.length ≤ 1000000001 by omega)
  have HOS : Aside0 (O.size ≤ 3000000000) := ⟨by rw [Lib.size_eq, ← hO]; have : (Lib.join (ys.map (·.data.toList)) [32]).length ≤ 3000000000 := by omega
                                                 exact this⟩
  have HOL := Aside0.mk hOl
  clear hO hjl hyl hpe hOl hs
  obtain ⟨R, hRR⟩ : ∃ R : ByteArray, (⟨(Ca.sq s.data.toList).toArray⟩ : ByteArray) = R := ⟨_, rfl⟩
  rw [hRR]
  have fin : ∀ X : ByteArray, Ca.sq s.data.toList = X.data.toList → R = X := by
    intro X h
    rw [← hRR, h]
  have FIN := Aside0.mk fin
  clear hRR fin
  go_enter Tryd.func42, Tryd.ntmps42
  go_upto_region 2 with (first | (go_at_call 53; refine (hpc _).mono ?_; rintro e w4 ⟨A, rfl, h1, h2, hb⟩; have n1_ := Aside0.mk (below_step HB.out hb); clear HB hpc; have HB := n1_; clear n1_; have HRC := Aside0.mk (row_cells h2); clear h1 h2 hb) | (go_at_call 54; obtain ⟨ha1, ha2, ha3, cur, hcur, hget⟩ := HRC.out; refine (Tryd.strings_Join A 0 ys.length ys (⟨#[32]⟩ : ByteArray) _ (fun j x hj => by rw [Nat.zero_add]; exact (blk_cell hcur j).trans (hget j x hj)) ha1 (by have := HYL.out; omega) (Nat.le_refl _) HJL.out).mono ?_; rintro e w5 ⟨rfl, hb⟩; rw [HO.out]; have n1_ := Aside0.mk (below_step HB.out hb); clear HB; have HB := n1_; clear n1_ hb HRC ha1 ha2 ha3 hcur hget))
  have add : (⟨#[32]⟩ ++ O : ByteArray).data.toList = 32 :: O.data.toList := by rw [Go.Joins.data_append]; rfl
  by_cases c1 : s.toList = ([] : List UInt8)
  · have b1 : (s.toList == ([] : List UInt8)) = true := beq_iff_eq.mpr c1
    have b2 : (s.toList != ([] : List UInt8)) = false := bne_eq_false_iff_eq.mpr c1
    have hq := FIN.out O (by
      rw [Lib.toList_data] at c1
      rw [HOL.out, c1]
      unfold Ca.sq
      rw [if_neg (fun h => by cases h.1)])
    subst hq
    clear FIN add c1
    go_wp2
    go_ret
    exact ⟨rfl, HB.out⟩
  have b1 : (s.toList == ([] : List UInt8)) = false := beq_eq_false_iff_ne.mpr c1
  have b2 : (s.toList != ([] : List UInt8)) = true := bne_iff_ne.mpr c1
  rw [Lib.toList_data] at c1
  have hpos : 0 < s.size := by
    rw [Lib.size_eq]
    exact List.length_pos_iff.2 c1
  obtain ⟨x, hx0⟩ : ∃ x : UInt8, s[0]'hpos = x := ⟨_, rfl⟩
  have hxs : ∀ h : 0 < s.size, ((s[0]'h).toNat : Int) = (x.toNat : Int) := fun h => by rw [hx0]
  have hl0 : ∃ l, s.data.toList = x :: l := by
    refine ⟨s.data.toList.drop 1, ?_⟩
    have h := List.drop_eq_getElem_cons (l := s.data.toList) (i := 0) (by rw [← Lib.size_eq]; exact hpos)
    rw [List.drop_zero] at h
    rw [h]
    congr 1
  obtain ⟨l, hl⟩ := hl0
  have q1 : ((0 : Int) < (s.size : Int)) = True := eq_true (by omega)
  have q2 : (0 < s.size) = True := eq_true hpos
  have hxn : x.toNat < 256 := x.toNat_lt
  have hw32 : IntKind.i32.wrap (x.toNat : Int) = (x.toNat : Int) := by
    have H : ∀ n : Nat, n < 256 → IntKind.i32.wrap (n : Int) = (n : Int) := by decide
    exact H _ hxn
  have hwx := fun w => Cw.white x.toNat w (by omega)
  obtain ⟨W, hW⟩ : ∃ W, Ca.wh x.toNat = W := ⟨_, rfl⟩
  have hwb : Ca.wb x = W := hW
  simp only [hW] at hwx
  have HWB := Aside0.mk hwb
  have HL := Aside0.mk hl
  obtain ⟨b, hb⟩ : ∃ b : Int, (x.toNat : Int) = b := ⟨_, rfl⟩
  rw [hb] at hxs hw32
  simp only [hb] at hwx
  clear hl hwb hW hxn c1 hx0
  by_cases c2 : O.toList = ([] : List UInt8)
  · have d1 : (O.toList == ([] : List UInt8)) = true := beq_iff_eq.mpr c2
    have d2 : (O.toList != ([] : List UInt8)) = false := bne_eq_false_iff_eq.mpr c2
    have hq := FIN.out O (by
      rw [Lib.toList_data] at c2
      rw [HOL.out]
      unfold Ca.sq
      rw [if_neg (fun h => h.2 (by rw [← HOL.out, c2]))])
    subst hq
    clear FIN add c2
    cases W
    all_goals go_wp2_with (go_at_call 55; refine (hwx _).mono ?_; rintro e w6 ⟨rfl, hb_⟩; have n1_ := Aside0.mk (below_step HB.out hb_); clear HB hwx hb_; have HB := n1_; clear n1_)
    all_goals go_ret
    all_goals exact ⟨rfl, HB.out⟩
  have d1 : (O.toList == ([] : List UInt8)) = false := beq_eq_false_iff_ne.mpr c2
  have d2 : (O.toList != ([] : List UInt8)) = true := bne_iff_ne.mpr c2
  rw [Lib.toList_data] at c2
  cases hWv : W with
  | false =>
    subst hWv
    have hq := FIN.out O (by
      rw [HOL.out]
      unfold Ca.sq
      rw [HL.out, if_neg (fun h => by have h1 := h.1; dsimp only at h1; rw [HWB.out] at h1; exact Bool.false_ne_true h1)])
    subst hq
    clear FIN add c2
    go_wp2_with (go_at_call 55; refine (hwx _).mono ?_; rintro e w6 ⟨rfl, hb_⟩; have n1_ := Aside0.mk (below_step HB.out hb_); clear HB hwx hb_; have HB := n1_; clear n1_)
    go_ret
    exact ⟨rfl, HB.out⟩
  | true =>
    subst hWv
    have hq := FIN.out (⟨#[32]⟩ ++ O) (by
      rw [add, HOL.out]
      unfold Ca.sq
      rw [← HOL.out]
      rw [HL.out, if_pos ⟨HWB.out, c2⟩])
    subst hq
    have z1 : ((⟨#[32]⟩ : ByteArray).size + O.size ≤ 9223372036854775807) = True := eq_true (by have := HOS.out; show 1 + O.size ≤ _; omega)
    have z2 : (1 + O.size ≤ 9223372036854775807) = True := eq_true (by have := HOS.out; omega)
    have z3 : decide (1 + O.size ≤ 9223372036854775807) = true := decide_eq_true (by have := HOS.out; omega)
    have z4 : (9223372036854775807 < 1 + O.size) = False := eq_false (by have := HOS.out; omega)
    clear FIN add c2
    go_wp2_with (go_at_call 55; refine (hwx _).mono ?_; rintro e w6 ⟨rfl, hb_⟩; have n1_ := Aside0.mk (below_step HB.out hb_); clear HB hwx hb_; have HB := n1_; clear n1_)
    go_ret
    exact ⟨rfl, HB.out⟩
set_option maxHeartbeats 1000000 in
set_option maxRecDepth 100000 in
theorem trail (s : ByteArray) (w : World) (hs : s.size ≤ 1000000000) :
    Calls Tryd.prog 43 #[.string s] w fun e w' => e = .returned (.string ⟨(Lib.trimRightS s.data.toList [32, 9, 11, 12, 13]).toArray⟩) ∧ Below w.heap.size w w' := by
  have HB := Aside0.mk (Below.refl w.heap.size w)
  have hc := fun w => Tryd.strings_TrimRight s (⟨#[32, 9, 11, 12, 13]⟩ : ByteArray) w (by omega) (by decide) (ascii_of_all (by decide))
  obtain ⟨T, hT⟩ : ∃ T, Lib.trimRightS s.data.toList [32, 9, 11, 12, 13] = T := ⟨_, rfl⟩
  have hT2 : Lib.trimRightS s.data.toList (⟨#[32, 9, 11, 12, 13]⟩ : ByteArray).data.toList = T := hT
  simp only [hT2] at hc
  rw [hT]
  go_enter Tryd.func43, Tryd.ntmps43
  go_wp2_with (go_at_call 56; refine (hc _).mono ?_; rintro e w6 ⟨rfl, hb_⟩; have n1_ := Aside0.mk (below_step HB.out hb_); clear HB hc hb_; have HB := n1_; clear n1_)
  go_ret
  exact ⟨rfl, HB.out⟩
def low (b : UInt8) : UInt8 := if 65 ≤ b.toNat ∧ b.toNat ≤ 90 then b + 32 else b
theorem low_nat (b : UInt8) : (low b).toNat = if 65 ≤ b.toNat ∧ b.toNat ≤ 90 then b.toNat + 32 else b.toNat := by
  unfold low
  split
  · rw [UInt8.toNat_add]
    show (b.toNat + 32) % 256 = _
    omega
  · rfl
def Bt (s : ByteArray) (z : Nat) (g : Nat) (W : World) : Prop := ∃ (cs : Array Value), W.heap[g]? = some (.cells cs 5 (cs.size, cs.size + 1)) ∧ s.size ≤ cs.size ∧ ∀ j, j < s.size → cs[j]? = some (.int .u8 (((if j < z then low (s.data.toList.getD j 0) else s.data.toList.getD j 0).toNat : Nat) : Int))
theorem Bt.start (s : ByteArray) (w : World) : Bt s 0 w.heap.size (Lib.bytesWorld w 5 s) := by
  have h0 := Lib.bytesWorld_at_new w 5 s
  have hsz : s.size ≤ (Lib.bytesCells w 5 s).size := by
    unfold Lib.bytesCells
    have : s.data.size = s.size := rfl
    simp [this]
  refine ⟨_, h0, hsz, fun j hj => ?_⟩
  have h := Lib.bytesWorld_cell w 5 s j hj
  rw [cell_of_row _ _ _ _ _ _ h0] at h
  rw [h, if_neg (by omega)]
theorem Bt.cell {s : ByteArray} {z g : Nat} {W : World} (h : Bt s z g W) (j : Nat) (hj : j < s.size) : W.cell? ⟨g, j, none⟩ = some (.int .u8 (((if j < z then low (s.data.toList.getD j 0) else s.data.toList.getD j 0).toNat : Nat) : Int)) ∧ W.frozen? ⟨g, j, none⟩ = false := by
  obtain ⟨cs, h0, h1, h2⟩ := h
  refine ⟨(cell_of_row _ _ _ _ _ _ h0).trans (h2 j hj), ?_⟩
  simp [World.frozen?, h0]
  omega
theorem Bt.keep {s : ByteArray} {z g : Nat} {W : World} (h : Bt s z g W) (hl : low (s.data.toList.getD z 0) = s.data.toList.getD z 0) : Bt s (z + 1) g W := by
  obtain ⟨cs, h0, h1, h2⟩ := h
  refine ⟨cs, h0, h1, fun j hj => (h2 j hj).trans ?_⟩
  by_cases hjz : j = z
  · subst hjz
    rw [if_neg (by omega), if_pos (by omega), hl]
  · by_cases h3 : j < z
    · rw [if_pos h3, if_pos (by omega)]
    · rw [if_neg h3, if_neg (by omega)]
theorem Bt.put {s : ByteArray} {z g : Nat} {W : World} (h : Bt s z g W) (hz : z < s.size) (v : Int) (hv : v = ((low (s.data.toList.getD z 0)).toNat : Int)) : Bt s (z + 1) g (W.setCell ⟨g, z, none⟩ (.int .u8 v)) := by
  obtain ⟨cs, h0, h1, h2⟩ := h
  have e : (cs.setIfInBounds z (.int .u8 v)).size = cs.size := Array.size_setIfInBounds ..
  refine ⟨cs.setIfInBounds z (.int .u8 v), ?_, by rw [e]; exact h1, fun j hj => ?_⟩
  · rw [e]
    simp [World.setCell, Array.getElem?_modify, h0]
  · by_cases hjz : j = z
    · subst hjz
      rw [Array.getElem?_setIfInBounds_self_of_lt (by omega), if_pos (by omega), hv]
    · rw [Array.getElem?_setIfInBounds_ne (Ne.symm hjz), h2 j hj]
      by_cases h3 : j < z
      · rw [if_pos h3, if_pos (by omega)]
      · rw [if_neg h3, if_neg (by omega)]
theorem Bt.text {s : ByteArray} {g : Nat} {W : World} (h : Bt s s.size g W) (cap : Nat) : (convert 51 9 (.slice (some ⟨g, 0, none⟩) s.size cap)).run Tryd.prog W = .ok (.string ⟨(s.data.toList.map low).toArray⟩) W := by
  have hl : (s.data.toList.map low).length = s.size := by rw [List.length_map, ← Lib.size_eq]
  have hr := run_convert_bytes_back (P := Tryd.prog) W 51 9 5 ⟨g, 0, none⟩ cap (s.data.toList.map low) Tryd.underlying51 Tryd.underlying5 Tryd.underlying9 (fun j hj => by
    rw [add_plain]
    have hj2 : j < s.size := by omega
    rw [(h.cell j hj2).1, if_pos hj2]
    have hj3 : j < s.data.toList.length := by rw [← Lib.size_eq]; exact hj2
    rw [List.getElem_map, List.getD_eq_getElem?_getD, List.getElem?_eq_getElem hj3, Option.getD_some])
  rw [hl] at hr
  exact hr
set_option maxHeartbeats 4000000 in
set_option maxRecDepth 100000 in
theorem small (s : ByteArray) (w : World) (hs : s.size ≤ 1000000000000) :
    Calls Tryd.prog 44 #[.string s] w fun e w' => e = .returned (.string ⟨(s.data.toList.map low).toArray⟩) ∧ Below w.heap.size w w' := by
  have HB := Aside0.mk (Below.refl w.heap.size w)
  have HS := Aside0.mk hs
  have kb := fun W => print_bytes (P := Tryd.prog) 9 51 5 Tryd.underlying9 Tryd.underlying51 Tryd.underlying5 s W
  have HT := Aside0.mk (Bt.start s w)
  have n1_ := Aside0.mk (bytes_below HB.out (Nat.le_refl _) 5 s)
  obtain ⟨cap, hcap⟩ : ∃ cap, grownCap w s.size 0 5 = cap := ⟨_, rfl⟩
  clear hs HB
  go_enter Tryd.func44, Tryd.ntmps44
  go_upto_region 2 with (fail)
  clear kb hcap
  generalize Lib.bytesWorld w 5 s = W1 at HT n1_ ⊢
  have HB := n1_
  clear n1_
  go_wp2
  go_loopg [10] s.size (fun q v10 w' => ∃ (z : Int), v10 = .int .i64 z ∧ 0 ≤ z ∧ z ≤ 1000000000000 ∧ Aside0 (z + (q : Int) = s.size) ∧ Aside0 (Bt s z.toNat w.heap.size w') ∧ Aside0 (Below w.heap.size w w'))
  case atStart => exact ⟨0, rfl, by omega, by omega, ⟨by omega⟩, HT, HB⟩
  case round =>
    clear HT HB
    obtain ⟨z, rfl, hz1, hz2, HZ, HT, HB⟩ := hrel
    cases gk with
    | zero =>
      have hzl : z = (s.size : Int) := by have := HZ.out; omega
      subst hzl
      have hp : ((s.size : Int) < (s.size : Int)) = False := eq_false (Int.lt_irrefl _)
      have h := HT.out
      rw [Int.toNat_natCast] at h
      have hcv := h.text cap
      clear h
      go_wp2
      go_ret
      exact ⟨rfl, HB.out⟩
    | succ q1 =>
      have hzl : decide (z < (s.size : Int)) = true := decide_eq_true (by have := HZ.out; omega)
      have hz3 := of_decide_eq_true hzl
      have hzn : z.toNat < s.size := by omega
      obtain ⟨x, hx⟩ : ∃ x, s.data.toList.getD z.toNat 0 = x := ⟨_, rfl⟩
      have hln := low_nat x
      have hc := HT.out.cell z.toNat hzn
      rw [if_neg (by omega), hx] at hc
      obtain ⟨y0, k0⟩ := hc
      have hb255 : x.toNat < 256 := x.toNat_lt
      obtain ⟨b, hb⟩ : ∃ b : Int, (x.toNat : Int) = b := ⟨_, rfl⟩
      rw [hb] at y0
      have p1 := eq_true hz1
      have p2 := eq_true hz3
      have hw : wrap64 (z + 1) = z + 1 := by unfold wrap64; omega
      have HW := Aside0.mk hw
      have hz4 : (z + 1).toNat = z.toNat + 1 := by omega
      have hkeep : ¬ (65 ≤ b ∧ b ≤ 90) → Bt s (z + 1).toNat w.heap.size wr := by
        intro h
        rw [hz4]
        refine HT.out.keep ?_
        rw [hx]
        apply UInt8.toNat_inj.1
        rw [hln, if_neg (by omega)]
      have hput : 65 ≤ b → b ≤ 90 → Bt s (z + 1).toNat w.heap.size (wr.setCell ⟨w.heap.size, z.toNat, none⟩ (.int .u8 (b + 97 - 65))) := by
        intro h1 h2
        rw [hz4]
        refine HT.out.put hzn _ ?_
        rw [hx, hln, if_pos (by omega)]
        omega
      have HK := Aside0.mk hkeep
      have HPU := Aside0.mk hput
      clear hkeep hput hln hx hb hw hz4 HT
      by_cases h1 : 65 ≤ b
      · have e1 : decide (65 ≤ b) = true := decide_eq_true h1
        have e1b : (65 ≤ b) = True := eq_true h1
        by_cases h2 : b ≤ 90
        · have e2 : decide (b ≤ 90) = true := decide_eq_true h2
          have e2b : (b ≤ 90) = True := eq_true h2
          go_wp2
          go_roundg q1
          case measure => omega
          case rel => exact ⟨z + 1, by go_num, by omega, by have := HZ.out; have := HS.out; omega, ⟨by have := HZ.out; omega⟩, ⟨HPU.out (by omega) (by omega)⟩, ⟨HB.out.setCell (p := ⟨w.heap.size, z.toNat, none⟩) (Nat.le_refl _) _⟩⟩
        · have e2 : decide (b ≤ 90) = false := decide_eq_false h2
          have e2b : (b ≤ 90) = False := eq_false h2
          go_wp2
          go_roundg q1
          case measure => omega
          case rel => exact ⟨z + 1, by go_num, by omega, by have := HZ.out; have := HS.out; omega, ⟨by have := HZ.out; omega⟩, ⟨HK.out (by omega)⟩, HB⟩
      · have e1 : decide (65 ≤ b) = false := decide_eq_false h1
        have e1b : (65 ≤ b) = False := eq_false h1
        go_wp2
        go_roundg q1
        case measure => omega
        case rel => exact ⟨z + 1, by go_num, by omega, by have := HZ.out; have := HS.out; omega, ⟨by have := HZ.out; omega⟩, ⟨HK.out (by omega)⟩, HB⟩
def stp (c : Bool) (g : List UInt8 → List UInt8) (x : Option ByteArray) : Option ByteArray := x.bind fun s => if c = true then (if s.size ≤ 1000000000 then some ⟨(g s.data.toList).toArray⟩ else none) else some s
def tx (a0 a1 a3 a4 a5 : Bool) : Nat → Option ByteArray → Option ByteArray
  | 0, x => stp a3 (fun l => l.map low) (stp a5 (fun l => Lib.trimRightS l [32, 9, 11, 12, 13]) (stp a0 Ca.sq (stp a1 (fun l => l.filter (fun b => !Ca.wb b)) (stp a4 (fun l => Sb.ex l []) x))))
  | 1, x => stp a3 (fun l => l.map low) (stp a5 (fun l => Lib.trimRightS l [32, 9, 11, 12, 13]) (stp a0 Ca.sq (stp a1 (fun l => l.filter (fun b => !Ca.wb b)) x)))
  | 2, x => stp a3 (fun l => l.map low) (stp a5 (fun l => Lib.trimRightS l [32, 9, 11, 12, 13]) (stp a0 Ca.sq x))
  | 3, x => stp a3 (fun l => l.map low) (stp a5 (fun l => Lib.trimRightS l [32, 9, 11, 12, 13]) x)
  | 4, x => stp a3 (fun l => l.map low) x
  | _, x => x
theorem tx_none (a0 a1 a3 a4 a5 : Bool) (i : Nat) : tx a0 a1 a3 a4 a5 i none = none := by
  match i with
  | 0 => rfl
  | 1 => rfl
  | 2 => rfl
  | 3 => rfl
  | 4 => rfl
  | n + 5 => rfl
theorem stp_yes {g : List UInt8 → List UInt8} {k : Option ByteArray → Option ByteArray} (hk : k none = none) {s r : ByteArray} (h : k (stp true g (some s)) = some r) : s.size ≤ 1000000000 ∧ k (some ⟨(g s.data.toList).toArray⟩) = some r := by
  unfold stp at h
  rw [Option.bind_some, if_pos rfl] at h
  by_cases hs : s.size ≤ 1000000000
  · rw [if_pos hs] at h; exact ⟨hs, h⟩
  · rw [if_neg hs, hk] at h; cases h
theorem stp_no {g : List UInt8 → List UInt8} {k : Option ByteArray → Option ByteArray} {s r : ByteArray} (h : k (stp false g (some s)) = some r) : k (some s) = some r := by
  unfold stp at h
  rw [Option.bind_some, if_neg Bool.false_ne_true] at h
  exact h
end Ct
def canon_text.f (a0 : ByteArray) (a1_0 a1_1 a1_2 a1_3 a1_4 a1_5 : Bool) : Option ByteArray := Ct.tx a1_0 a1_1 a1_3 a1_4 a1_5 0 (some a0)
set_option maxHeartbeats 8000000 in
set_option maxRecDepth 100000 in
theorem canon_text.calls (a0 : ByteArray) (a1_0 a1_1 a1_2 a1_3 a1_4 a1_5 : Bool) (r : ByteArray) (w : World) (h : canon_text.f a0 a1_0 a1_1 a1_2 a1_3 a1_4 a1_5 = some r) :
    Calls Tryd.prog 31 #[.string a0, .agg #[.bool a1_0, .bool a1_1, .bool a1_2, .bool a1_3, .bool a1_4, .bool a1_5]] w fun e w' => e = .returned (.string r) ∧ Below w.heap.size w w' := by
  have HB := Aside0.mk (Below.refl w.heap.size w)
  have H := Aside0.mk h
  clear h
  go_enter Tryd.func31, Tryd.ntmps31
  go_wp2
  have n1_ : Aside0 (((w.alloc (.cells #[.bool a1_0, .bool a1_1, .bool a1_2, .bool a1_3, .bool a1_4, .bool a1_5] 23)).alloc (.cells #[.bool a1_4, .func (.func 12) #[] #[], .bool a1_1, .func (.func 41) #[] #[], .bool a1_0, .func (.func 42) #[] #[], .bool a1_5, .func (.func 43) #[] #[], .bool a1_3, .func (.func 44) #[] #[]] 67)).heap[w.heap.size + 1]? = some (.cells #[.bool a1_4, .func (.func 12) #[] #[], .bool a1_1, .func (.func 41) #[] #[], .bool a1_0, .func (.func 42) #[] #[], .bool a1_5, .func (.func 43) #[] #[], .bool a1_3, .func (.func 44) #[] #[]] 67 (0, 0))) := ⟨by
    have h := blk_new (w.alloc (.cells #[.bool a1_0, .bool a1_1, .bool a1_2, .bool a1_3, .bool a1_4, .bool a1_5] 23)) (.cells #[.bool a1_4, .func (.func 12) #[] #[], .bool a1_1, .func (.func 41) #[] #[], .bool a1_0, .func (.func 42) #[] #[], .bool a1_5, .func (.func 43) #[] #[], .bool a1_3, .func (.func 44) #[] #[]] 67)
    have e : (w.alloc (.cells #[.bool a1_0, .bool a1_1, .bool a1_2, .bool a1_3, .bool a1_4, .bool a1_5] 23)).heap.size = w.heap.size + 1 := by simp
    rw [e] at h
    exact h⟩
  have n2_ : Aside0 (Below w.heap.size w ((w.alloc (.cells #[.bool a1_0, .bool a1_1, .bool a1_2, .bool a1_3, .bool a1_4, .bool a1_5] 23)).alloc (.cells #[.bool a1_4, .func (.func 12) #[] #[], .bool a1_1, .func (.func 41) #[] #[], .bool a1_0, .func (.func 42) #[] #[], .bool a1_5, .func (.func 43) #[] #[], .bool a1_3, .func (.func 44) #[] #[]] 67))) := ⟨(HB.out.alloc (Nat.le_refl _) _).alloc (by simp) _⟩
  obtain ⟨CS, hCS⟩ : ∃ CS : Array Value, #[.bool a1_4, .func (.func 12) #[] #[], .bool a1_1, .func (.func 41) #[] #[], .bool a1_0, .func (.func 42) #[] #[], .bool a1_5, .func (.func 43) #[] #[], .bool a1_3, .func (.func 44) #[] #[]] = CS := ⟨_, rfl⟩
  clear HB
  rw [hCS] at n1_ n2_ ⊢
  generalize World.alloc _ _ = W2 at n1_ n2_ ⊢
  have HC := Aside0.mk hCS
  have HG := n1_
  have HB := n2_
  clear n1_ n2_ hCS
  go_loopg [0, 24] 5 (fun q v0 v24 w' => ∃ (i : Nat) (cur : ByteArray), i + q = 5 ∧ v24 = .int .i64 (i : Int) ∧ v0 = .string cur ∧ Aside0 (Ct.tx a1_0 a1_1 a1_3 a1_4 a1_5 i (some cur) = some r) ∧ Aside0 (w'.heap[w.heap.size + 1]? = some (.cells CS 67 (0, 0))) ∧ Aside0 (Below w.heap.size w w'))
  case atStart => exact ⟨0, a0, rfl, rfl, rfl, H, HG, HB⟩
  case round =>
    clear HG HB H
    obtain ⟨i, cur, hi, rfl, rfl, H, HG, HB⟩ := hrel
    cases gk with
    | zero =>
      obtain rfl : i = 5 := by omega
      have h := H.out
      injection h with h
      subst h
      go_wp2
      go_ret
      exact ⟨rfl, HB.out⟩
    | succ q =>
      have hst : ∀ (W : World) (a : Addr) (f : Nat), (store a (.func (.func f) #[] #[])).run Tryd.prog W = stored Tryd.prog W a (.func (.func f) #[] #[]) .plain := fun W a f => run_store _ W a _ _ rfl
      have hi5 : i = 0 ∨ i = 1 ∨ i = 2 ∨ i = 3 ∨ i = 4 := by omega
      rcases hi5 with rfl | rfl | rfl | rfl | rfl
      · have y0 : wr.cell? ⟨w.heap.size + 1, 0, none⟩ = some (.bool a1_4) := (blk_cell HG.out 0).trans (by rw [← HC.out]; rfl)
        have y1 : wr.cell? ⟨w.heap.size + 1, 1, none⟩ = some (.func (.func 12) #[] #[]) := (blk_cell HG.out 1).trans (by rw [← HC.out]; rfl)
        cases a1_4 with
        | false =>
          have HN := Aside0.mk (Ct.stp_no (g := fun l => Sb.ex l []) (k := (Ct.tx a1_0 a1_1 a1_3 false a1_5 1)) H.out)
          clear H
          go_wp2
          go_roundg q
          case measure => omega
          case rel => exact ⟨1, cur, by omega, by first | rfl | (simp; done) | go_num, rfl, HN, ⟨(Lib.alloc_old wr _ _ (blk_lt HG.out)).trans HG.out⟩, ⟨HB.out.alloc HB.out.size _⟩⟩
        | true =>
          obtain ⟨hs, hn⟩ := Ct.stp_yes (g := fun l => Sb.ex l []) (k := (Ct.tx a1_0 a1_1 a1_3 true a1_5 1)) (Ct.tx_none _ _ _ _ _ 1) H.out
          have HS := Aside0.mk hs
          have HN := Aside0.mk hn
          clear hs hn H
          go_wp2_with (go_at_call 12; refine (Sb.expand cur _ (by have := HS.out; omega)).mono ?_; rintro e w6 ⟨rfl, hb⟩; have n1_ := Aside0.mk (blk_below ((Lib.alloc_old wr _ _ (blk_lt HG.out)).trans HG.out) hb); have n2_ := Aside0.mk (below_step (HB.out.alloc HB.out.size _) hb); clear HB HG hb y0 y1; have HG := n1_; have HB := n2_; clear n1_ n2_)
          go_roundg q
          case measure => omega
          case rel => exact ⟨1, _, by omega, by first | rfl | (simp; done) | go_num, rfl, HN, HG, HB⟩
      · have y0 : wr.cell? ⟨w.heap.size + 1, 2, none⟩ = some (.bool a1_1) := (blk_cell HG.out 2).trans (by rw [← HC.out]; rfl)
        have y1 : wr.cell? ⟨w.heap.size + 1, 3, none⟩ = some (.func (.func 41) #[] #[]) := (blk_cell HG.out 3).trans (by rw [← HC.out]; rfl)
        cases a1_1 with
        | false =>
          have HN := Aside0.mk (Ct.stp_no (g := fun l => l.filter (fun b => !Ca.wb b)) (k := (Ct.tx a1_0 false a1_3 a1_4 a1_5 2)) H.out)
          clear H
          go_wp2
          go_roundg q
          case measure => omega
          case rel => exact ⟨2, cur, by omega, by first | rfl | (simp; done) | go_num, rfl, HN, ⟨(Lib.alloc_old wr _ _ (blk_lt HG.out)).trans HG.out⟩, ⟨HB.out.alloc HB.out.size _⟩⟩
        | true =>
          obtain ⟨hs, hn⟩ := Ct.stp_yes (g := fun l => l.filter (fun b => !Ca.wb b)) (k := (Ct.tx a1_0 true a1_3 a1_4 a1_5 2)) (Ct.tx_none _ _ _ _ _ 2) H.out
          have HS := Aside0.mk hs
          have HN := Aside0.mk hn
          clear hs hn H
          go_wp2_with (go_at_call 41; refine (Ct.strip cur _ (by have := HS.out; omega)).mono ?_; rintro e w6 ⟨rfl, hb⟩; have n1_ := Aside0.mk (blk_below ((Lib.alloc_old wr _ _ (blk_lt HG.out)).trans HG.out) hb); have n2_ := Aside0.mk (below_step (HB.out.alloc HB.out.size _) hb); clear HB HG hb y0 y1; have HG := n1_; have HB := n2_; clear n1_ n2_)
          go_roundg q
          case measure => omega
          case rel => exact ⟨2, _, by omega, by first | rfl | (simp; done) | go_num, rfl, HN, HG, HB⟩
      · have y0 : wr.cell? ⟨w.heap.size + 1, 4, none⟩ = some (.bool a1_0) := (blk_cell HG.out 4).trans (by rw [← HC.out]; rfl)
        have y1 : wr.cell? ⟨w.heap.size + 1, 5, none⟩ = some (.func (.func 42) #[] #[]) := (blk_cell HG.out 5).trans (by rw [← HC.out]; rfl)
        cases a1_0 with
        | false =>
          have HN := Aside0.mk (Ct.stp_no (g := Ca.sq) (k := (Ct.tx false a1_1 a1_3 a1_4 a1_5 3)) H.out)
          clear H
          go_wp2
          go_roundg q
          case measure => omega
          case rel => exact ⟨3, cur, by omega, by first | rfl | (simp; done) | go_num, rfl, HN, ⟨(Lib.alloc_old wr _ _ (blk_lt HG.out)).trans HG.out⟩, ⟨HB.out.alloc HB.out.size _⟩⟩
        | true =>
          obtain ⟨hs, hn⟩ := Ct.stp_yes (g := Ca.sq) (k := (Ct.tx true a1_1 a1_3 a1_4 a1_5 3)) (Ct.tx_none _ _ _ _ _ 3) H.out
          have HS := Aside0.mk hs
          have HN := Aside0.mk hn
          clear hs hn H
          go_wp2_with (go_at_call 42; refine (Ct.squeeze cur _ (by have := HS.out; omega)).mono ?_; rintro e w6 ⟨rfl, hb⟩; have n1_ := Aside0.mk (blk_below ((Lib.alloc_old wr _ _ (blk_lt HG.out)).trans HG.out) hb); have n2_ := Aside0.mk (below_step (HB.out.alloc HB.out.size _) hb); clear HB HG hb y0 y1; have HG := n1_; have HB := n2_; clear n1_ n2_)
          go_roundg q
          case measure => omega
          case rel => exact ⟨3, _, by omega, by first | rfl | (simp; done) | go_num, rfl, HN, HG, HB⟩
      · have y0 : wr.cell? ⟨w.heap.size + 1, 6, none⟩ = some (.bool a1_5) := (blk_cell HG.out 6).trans (by rw [← HC.out]; rfl)
        have y1 : wr.cell? ⟨w.heap.size + 1, 7, none⟩ = some (.func (.func 43) #[] #[]) := (blk_cell HG.out 7).trans (by rw [← HC.out]; rfl)
        cases a1_5 with
        | false =>
          have HN := Aside0.mk (Ct.stp_no (g := fun l => Lib.trimRightS l [32, 9, 11, 12, 13]) (k := (Ct.tx a1_0 a1_1 a1_3 a1_4 false 4)) H.out)
          clear H
          go_wp2
          go_roundg q
          case measure => omega
          case rel => exact ⟨4, cur, by omega, by first | rfl | (simp; done) | go_num, rfl, HN, ⟨(Lib.alloc_old wr _ _ (blk_lt HG.out)).trans HG.out⟩, ⟨HB.out.alloc HB.out.size _⟩⟩
        | true =>
          obtain ⟨hs, hn⟩ := Ct.stp_yes (g := fun l => Lib.trimRightS l [32, 9, 11, 12, 13]) (k := (Ct.tx a1_0 a1_1 a1_3 a1_4 true 4)) (Ct.tx_none _ _ _ _ _ 4) H.out
          have HS := Aside0.mk hs
          have HN := Aside0.mk hn
          clear hs hn H
          go_wp2_with (go_at_call 43; refine (Ct.trail cur _ (by have := HS.out; omega)).mono ?_; rintro e w6 ⟨rfl, hb⟩; have n1_ := Aside0.mk (blk_below ((Lib.alloc_old wr _ _ (blk_lt HG.out)).trans HG.out) hb); have n2_ := Aside0.mk (below_step (HB.out.alloc HB.out.size _) hb); clear HB HG hb y0 y1; have HG := n1_; have HB := n2_; clear n1_ n2_)
          go_roundg q
          case measure => omega
          case rel => exact ⟨4, _, by omega, by first | rfl | (simp; done) | go_num, rfl, HN, HG, HB⟩
      · have y0 : wr.cell? ⟨w.heap.size + 1, 8, none⟩ = some (.bool a1_3) := (blk_cell HG.out 8).trans (by rw [← HC.out]; rfl)
        have y1 : wr.cell? ⟨w.heap.size + 1, 9, none⟩ = some (.func (.func 44) #[] #[]) := (blk_cell HG.out 9).trans (by rw [← HC.out]; rfl)
        cases a1_3 with
        | false =>
          have HN := Aside0.mk (Ct.stp_no (g := fun l => l.map Ct.low) (k := (Ct.tx a1_0 a1_1 false a1_4 a1_5 5)) H.out)
          clear H
          go_wp2
          go_roundg q
          case measure => omega
          case rel => exact ⟨5, cur, by omega, by first | rfl | (simp; done) | go_num, rfl, HN, ⟨(Lib.alloc_old wr _ _ (blk_lt HG.out)).trans HG.out⟩, ⟨HB.out.alloc HB.out.size _⟩⟩
        | true =>
          obtain ⟨hs, hn⟩ := Ct.stp_yes (g := fun l => l.map Ct.low) (k := (Ct.tx a1_0 a1_1 true a1_4 a1_5 5)) (Ct.tx_none _ _ _ _ _ 5) H.out
          have HS := Aside0.mk hs
          have HN := Aside0.mk hn
          clear hs hn H
          go_wp2_with (go_at_call 44; refine (Ct.small cur _ (by have := HS.out; omega)).mono ?_; rintro e w6 ⟨rfl, hb⟩; have n1_ := Aside0.mk (blk_below ((Lib.alloc_old wr _ _ (blk_lt HG.out)).trans HG.out) hb); have n2_ := Aside0.mk (below_step (HB.out.alloc HB.out.size _) hb); clear HB HG hb y0 y1; have HG := n1_; have HB := n2_; clear n1_ n2_)
          go_roundg q
          case measure => omega
          case rel => exact ⟨5, _, by omega, by first | rfl | (simp; done) | go_num, rfl, HN, HG, HB⟩
end Go.Proofs.YtglffceopijogaaDoor.X
