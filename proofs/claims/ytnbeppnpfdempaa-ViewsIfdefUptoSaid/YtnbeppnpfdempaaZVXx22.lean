import Derived.Test.YtnbeppnpfdempaaZVXx0
import Derived.Test.YtnbeppnpfdempaaZVXx17
import Derived.Test.YtnbeppnpfdempaaZVXx19
import Derived.Test.YtnbeppnpfdempaaZVXx21
import Derived.Deep.OwnRows
namespace Go.Proofs.Ytnbeppnpfdempaa.X
open Go.RowKit Go.Proofs.YtnbeppnpfdempaaW.PrintWords Go.Proofs.YtnbeppnpfdempaaW.PrintLast Go.Proofs.YtnbeppnpfdempaaW.PrintMore
attribute [local go_sem] max2_int min2_int max_two min_two max_three min_three max_four min_four   -- for this text's walks alone
open Go.Proofs.YtnbeppnpfdempaaW.HandWords
set_option linter.unusedVariables false
set_option linter.unusedSimpArgs false
namespace Rf
def cut (l : List ByteArray) (a b : Int) : List ByteArray := (l.take b.toNat).drop a.toNat
def okc (n m at_ : Int) (c : S52) : Prop := 0 ≤ at_ ∧ at_ ≤ c.f0 ∧ 0 ≤ c.f1 ∧ c.f0 + c.f1 ≤ n ∧ 0 ≤ c.f2 ∧ 0 ≤ c.f3 ∧ c.f2 + c.f3 ≤ m
instance (n m at_ : Int) (c : S52) : Decidable (okc n m at_ c) := by unfold okc; exact inferInstance
def put (nm : ByteArray) (c : S52) (s r2 r3 : ByteArray) : ByteArray := if c.f3 = 0 then (((((((s ++ (⟨#[35, 105, 102, 110, 100, 101, 102, 32]⟩ : ByteArray)) ++ nm) ++ (⟨#[10]⟩ : ByteArray)) ++ r2) ++ (⟨#[35, 101, 110, 100, 105, 102, 32, 47, 42, 32, 33, 32]⟩ : ByteArray)) ++ nm) ++ (⟨#[32, 42, 47, 10]⟩ : ByteArray)) else if c.f1 = 0 then (((((((s ++ (⟨#[35, 105, 102, 100, 101, 102, 32]⟩ : ByteArray)) ++ nm) ++ (⟨#[10]⟩ : ByteArray)) ++ r3) ++ (⟨#[35, 101, 110, 100, 105, 102, 32, 47, 42, 32]⟩ : ByteArray)) ++ nm) ++ (⟨#[32, 42, 47, 10]⟩ : ByteArray)) else (((((((((((s ++ (⟨#[35, 105, 102, 110, 100, 101, 102, 32]⟩ : ByteArray)) ++ nm) ++ (⟨#[10]⟩ : ByteArray)) ++ r2) ++ (⟨#[35, 101, 108, 115, 101, 32, 47, 42, 32]⟩ : ByteArray)) ++ nm) ++ (⟨#[32, 42, 47, 10]⟩ : ByteArray)) ++ r3) ++ (⟨#[35, 101, 110, 100, 105, 102, 32, 47, 42, 32]⟩ : ByteArray)) ++ nm) ++ (⟨#[32, 42, 47, 10]⟩ : ByteArray))
def go (k : Nat) (a b : List ByteArray) (nm : ByteArray) : List S52 → Int → ByteArray → Option (Int × ByteArray)
  | [], at_, s => some (at_, s)
  | c :: l, at_, s =>
    if okc (a.length : Int) (b.length : Int) at_ c then
      (redlineref17_whole.f k (cut a at_ c.f0)).bind fun r1 => (redlineref17_whole.f k (cut a c.f0 (c.f0 + c.f1))).bind fun r2 => (redlineref17_whole.f k (cut b c.f2 (c.f2 + c.f3))).bind fun r3 =>
        if s.size + r1.size + r2.size + r3.size + nm.size ≤ 100000000000000 then go k a b nm l (c.f0 + c.f1) (put nm c (s ++ r1) r2 r3) else none
    else none
end Rf
def redlineref17_Ifdef.f (k : Nat) (l0 : List S52) (l1 l2 : List ByteArray) (a3 : ByteArray) : Option (ByteArray × Int) :=
  if l1.length ≤ 1000000000000 ∧ l2.length ≤ 1000000000000 ∧ l0.length ≤ 1000000000000 then
    (redlineref05_Check.f k l0 (l1.length : Int) (l2.length : Int)).bind fun e => if e = 0 then (redlineref17_Name.f k a3).bind fun t => if t = true then
      (Rf.go k l1 l2 a3 l0 0 ⟨#[]⟩).bind fun r => (redlineref17_whole.f k (l1.drop r.1.toNat)).bind fun r4 => if 0 ≤ r.1 ∧ r.1 ≤ (l1.length : Int) ∧ r.2.size + r4.size ≤ 100000000000000 then some (r.2 ++ r4, 0) else none
      else some (⟨#[]⟩, 253) else some (⟨#[]⟩, e)
  else none
set_option maxHeartbeats 8000000 in
set_option maxRecDepth 100000 in
theorem redlineref17_Ifdef.calls (k : Nat) (A0 : Option Addr) (c0 : Nat) (l0 : List S52) (A1 : Option Addr) (c1 : Nat) (l1 : List ByteArray) (A2 : Option Addr) (c2 : Nat) (l2 : List ByteArray) (a3 : ByteArray) (r1 : ByteArray) (r2 : Int) (w : World) (hr0 : Kd.C k52 w A0 l0.length l0) (hc0 : l0.length ≤ c0) (hr1 : Kd.C Kd.string w A1 l1.length l1) (hc1 : l1.length ≤ c1) (hr2 : Kd.C Kd.string w A2 l2.length l2) (hc2 : l2.length ≤ c2) (h : redlineref17_Ifdef.f k l0 l1 l2 a3 = some (r1, r2)) :
    Calls Try.prog 6 #[.slice A0 l0.length c0, .slice A1 l1.length c1, .slice A2 l2.length c2, .string a3] w fun e w' => e = .returned (.tuple #[.string r1, .int .i64 r2]) ∧ Below w.heap.size w w' := by
  unfold redlineref17_Ifdef.f at h
  by_cases hg : l1.length ≤ 1000000000000 ∧ l2.length ≤ 1000000000000 ∧ l0.length ≤ 1000000000000
  case neg => rw [if_neg hg] at h; cases h
  rw [if_pos hg] at h
  obtain ⟨er, he, h⟩ := Option.bind_eq_some_iff.mp h
  have HG := Aside0.mk hg
  have HE := Aside0.mk he
  have HR0 := Aside0.mk hr0
  have HC0 := Aside0.mk hc0
  have HR1 := Aside0.mk hr1
  have HC1 := Aside0.mk hc1
  have HR2 := Aside0.mk hr2
  have HC2 := Aside0.mk hc2
  have HB := Aside0.mk (Below.refl w.heap.size w)
  clear hr0 hc0 hr1 hc1 hr2 hc2 he hg
  by_cases he0 : er = 0
  case neg =>
    rw [if_neg he0] at h
    injection h with h
    injection h with h1 h2
    subst h1 h2
    have f1 : (er != 0) = true := bne_iff_ne.mpr he0
    clear he0
    go_enter Try.func6, Try.ntmps6
    go_wp2_with (go_at_call 21; (with_reducible refine (redlineref05_Check.calls k _ _ l0 (l1.length : Int) (l2.length : Int) _ w HR0.out HC0.out HE.out).mono ?_); rintro e w1 ⟨rfl, hb⟩; have n1_ := Aside0.mk (below_step HB.out hb); clear HB hb; have HB := n1_; clear n1_)
    go_ret2
    exact ⟨rfl, HB.out⟩
  rw [if_pos he0] at h
  subst he0
  obtain ⟨t, hnm, h⟩ := Option.bind_eq_some_iff.mp h
  have HNM := Aside0.mk hnm
  clear hnm
  by_cases ht : t = true
  case neg =>
    rw [if_neg ht] at h
    injection h with h
    injection h with h1 h2
    subst h1 h2
    obtain rfl : t = false := by simpa using ht
    clear ht
    go_enter Try.func6, Try.ntmps6
    go_wp2_with (first | (go_at_call 21; (with_reducible refine (redlineref05_Check.calls k _ _ l0 (l1.length : Int) (l2.length : Int) _ w HR0.out HC0.out HE.out).mono ?_); rintro e w1 ⟨rfl, hb⟩; have n1_ := Aside0.mk (below_step HB.out hb); clear HB hb; have HB := n1_; clear n1_) | (go_at_call 22; (with_reducible refine (redlineref17_Name.calls k a3 _ w1 HNM.out).mono ?_); rintro e w2 ⟨rfl, hd⟩; have n1_ := Aside0.mk (below_step HB.out hd.below); clear HB hd; have HB := n1_; clear n1_))
    go_ret2
    exact ⟨rfl, HB.out⟩
  rw [if_pos ht] at h
  subst ht
  obtain ⟨⟨at9, s9⟩, hgo, h⟩ := Option.bind_eq_some_iff.mp h
  obtain ⟨r4, hr4, h⟩ := Option.bind_eq_some_iff.mp h
  dsimp only at hr4 h
  by_cases hz : 0 ≤ at9 ∧ at9 ≤ (l1.length : Int) ∧ s9.size + r4.size ≤ 100000000000000
  case neg => rw [if_neg hz] at h; cases h
  rw [if_pos hz] at h
  injection h with h
  injection h with h1 h2
  subst h1 h2
  have HGO := Aside0.mk hgo
  have HR4 := Aside0.mk hr4
  have HZ9 := Aside0.mk hz
  clear hgo hr4 hz
  go_enter Try.func6, Try.ntmps6
  go_upto_region 6 with (first | (go_at_call 21; (with_reducible refine (redlineref05_Check.calls k _ _ l0 (l1.length : Int) (l2.length : Int) _ w HR0.out HC0.out HE.out).mono ?_); rintro e w1 ⟨rfl, hb⟩; have n1_ := Aside0.mk (below_step HB.out hb); clear HB hb; have HB := n1_; clear n1_) | (go_at_call 22; (with_reducible refine (redlineref17_Name.calls k a3 _ w1 HNM.out).mono ?_); rintro e w2 ⟨rfl, hd⟩; have n1_ := Aside0.mk (below_step HB.out hd.below); clear HB hd; have HB := n1_; clear n1_))
  go_wp2
  go_loopg [11, 12, 13] l0.length (fun q v11 v12 v13 w' => ∃ (z at_ : Int) (s : ByteArray), v11 = .string s ∧ v12 = .int .i64 at_ ∧ v13 = .int .i64 z ∧ 0 ≤ z ∧ z ≤ 1000000000000 ∧ Aside0 (z + (q : Int) = l0.length) ∧ Aside0 (Rf.go k l1 l2 a3 (l0.drop z.toNat) at_ s = some (at9, s9)) ∧ Aside0 (Below w.heap.size w w'))
  case atStart => exact ⟨0, 0, ⟨#[]⟩, rfl, rfl, rfl, by omega, by omega, ⟨by omega⟩, ⟨by rw [show (0 : Int).toNat = 0 from rfl, List.drop_zero]; exact HGO.out⟩, HB⟩
  case round =>
    clear HGO HB
    obtain ⟨z, at_, s, rfl, rfl, rfl, hz1, hz2, HZ, HGO, HB⟩ := hrel
    have hinfo : ∃ i, Try.prog.info? 9 = some i ∧ i.size = 1 := ⟨_, rfl, rfl⟩
    cases gk with
    | zero =>
      have hzl : z = (l0.length : Int) := by have := HZ.out; omega
      subst hzl
      have hp : ((l0.length : Int) < (l0.length : Int)) = False := eq_false (Int.lt_irrefl _)
      have h := HGO.out
      rw [Int.toNat_natCast, List.drop_length, Rf.go] at h
      injection h with h
      injection h with h1 h2
      subst h1 h2
      obtain ⟨qi, hqi, hqs⟩ := hinfo
      obtain ⟨B4, hcut4, hA4, hD4⟩ := print_drop_of (P := Try.prog) Value.string ByteArray.empty 23 9 .i64 Try.underlying23 hqi hqs A1 c1 l1 at_ HZ9.out.1 HZ9.out.2.1 HC1.out
      obtain ⟨Y4, hY4⟩ : ∃ Y, l1.drop at_.toNat = Y := ⟨_, rfl⟩
      have hR4 := HR4.out
      rw [hY4] at hcut4 hA4 hD4 hR4
      have HCR4 : Aside0 (Kd.C Kd.string w B4 Y4.length Y4) := ⟨Kd.C_of_reads (h1 := fun _ => rfl) (hA4 _ (Kd.reads_of_C HR1.out))⟩
      have HALL4 := Aside0.mk hR4
      have HD4 := Aside0.mk hD4
      have e0_ : s.size + r4.size ≤ 9223372036854775807 := by have := HZ9.out.2.2; omega
      have e0a_ := eq_true e0_
      have e0b_ : decide (s.size + r4.size ≤ 9223372036854775807) = true := decide_eq_true e0_
      have e0c_ : (9223372036854775807 < s.size + r4.size) = False := eq_false (Nat.not_lt.2 e0_)
      clear e0_
      clear hA4 hD4 hqi hqs hY4 hR4 HGO
      go_wp2_with (go_at_call 23; (with_reducible refine (redlineref17_whole.calls k B4 _ Y4 r4 _ (Kd.C_below HCR4.out HB.out) HD4.out HALL4.out).mono ?_); rintro e w9 ⟨rfl, hd⟩; have HEND := Aside0.mk (below_step HB.out hd.below); clear hd)
      go_ret2
      exact ⟨rfl, HEND.out⟩
    | succ q1 =>
      have hzl : decide (z < (l0.length : Int)) = true := decide_eq_true (by have := HZ.out; omega)
      have hz3 := of_decide_eq_true hzl
      obtain ⟨ad1, ea1, y0, y1, y2, y3⟩ := at_T52 HR0.out z hz1 hz3
      cases ea1
      replace y0 := (HB.out.cell (World.block_lt_of_cell? w _ y0)).trans y0
      replace y1 := (HB.out.cell (World.block_lt_of_cell? w _ y1)).trans y1
      replace y2 := (HB.out.cell (World.block_lt_of_cell? w _ y2)).trans y2
      replace y3 := (HB.out.cell (World.block_lt_of_cell? w _ y3)).trans y3
      have p1 := eq_true hz1
      have p2 := eq_true hz3
      have hw : wrap64 (z + 1) = z + 1 := by unfold wrap64; omega
      have HW := Aside0.mk hw
      have hd : l0.drop z.toNat = rd_T52 l0 z :: l0.drop (z + 1).toNat := by
        rw [show (z + 1).toNat = z.toNat + 1 by omega, List.drop_eq_getElem_cons (by omega)]
        simp [rd_T52, List.getD_eq_getElem?_getD, show z.toNat < l0.length by omega]
      obtain ⟨ch, hch⟩ : ∃ ch, rd_T52 l0 z = ch := ⟨_, rfl⟩
      rw [hch] at y0 y1 y2 y3 hd
      have hgo := HGO.out
      rw [hd, Rf.go] at hgo
      by_cases hk : Rf.okc (l1.length : Int) (l2.length : Int) at_ ch
      case neg => rw [if_neg hk] at hgo; cases hgo
      rw [if_pos hk] at hgo
      obtain ⟨r1, h1, hgo⟩ := Option.bind_eq_some_iff.mp hgo
      obtain ⟨r2, h2, hgo⟩ := Option.bind_eq_some_iff.mp hgo
      obtain ⟨r3, h3, hgo⟩ := Option.bind_eq_some_iff.mp hgo
      by_cases hsz : s.size + r1.size + r2.size + r3.size + a3.size ≤ 100000000000000
      case neg => rw [if_neg hsz] at hgo; cases hgo
      rw [if_pos hsz] at hgo
      have HGO2 := Aside0.mk hgo
      have HSZ := Aside0.mk hsz
      obtain ⟨k0, k1, k2, k3, k4, k5, k6⟩ := hk
      have hwa : wrap64 (ch.f0 + ch.f1) = ch.f0 + ch.f1 := by have := HG.out; unfold wrap64; omega
      have hwb : wrap64 (ch.f2 + ch.f3) = ch.f2 + ch.f3 := by have := HG.out; unfold wrap64; omega
      obtain ⟨qi, hqi, hqs⟩ := hinfo
      obtain ⟨B1, hcut1, hA1, hD1⟩ := print_mid_of (P := Try.prog) Value.string ByteArray.empty 23 9 .i64 .i64 Try.underlying23 hqi hqs A1 c1 l1 at_ ch.f0 k0 k1 (by omega) HC1.out
      obtain ⟨B2, hcut2, hA2, hD2⟩ := print_mid_of (P := Try.prog) Value.string ByteArray.empty 23 9 .i64 .i64 Try.underlying23 hqi hqs A1 c1 l1 ch.f0 (ch.f0 + ch.f1) (by omega) (by omega) k3 HC1.out
      obtain ⟨B3, hcut3, hA3, hD3⟩ := print_mid_of (P := Try.prog) Value.string ByteArray.empty 23 9 .i64 .i64 Try.underlying23 hqi hqs A2 c2 l2 ch.f2 (ch.f2 + ch.f3) k4 (by omega) k6 HC2.out
      unfold Rf.cut at h1 h2 h3
      obtain ⟨Y1, hY1⟩ : ∃ Y, ((l1.take ch.f0.toNat).drop at_.toNat) = Y := ⟨_, rfl⟩
      obtain ⟨Y2, hY2⟩ : ∃ Y, ((l1.take (ch.f0 + ch.f1).toNat).drop ch.f0.toNat) = Y := ⟨_, rfl⟩
      obtain ⟨Y3, hY3⟩ : ∃ Y, ((l2.take (ch.f2 + ch.f3).toNat).drop ch.f2.toNat) = Y := ⟨_, rfl⟩
      rw [hY1] at hcut1 hA1 hD1 h1
      rw [hY2] at hcut2 hA2 hD2 h2
      rw [hY3] at hcut3 hA3 hD3 h3
      have HE1 : Aside0 (Kd.C Kd.string w B1 Y1.length Y1) := ⟨Kd.C_of_reads (h1 := fun _ => rfl) (hA1 _ (Kd.reads_of_C HR1.out))⟩
      have HE2 : Aside0 (Kd.C Kd.string w B2 Y2.length Y2) := ⟨Kd.C_of_reads (h1 := fun _ => rfl) (hA2 _ (Kd.reads_of_C HR1.out))⟩
      have HE3 : Aside0 (Kd.C Kd.string w B3 Y3.length Y3) := ⟨Kd.C_of_reads (h1 := fun _ => rfl) (hA3 _ (Kd.reads_of_C HR2.out))⟩
      have HA1 := Aside0.mk h1
      have HA2 := Aside0.mk h2
      have HA3 := Aside0.mk h3
      have HD1 := Aside0.mk hD1
      have HD2 := Aside0.mk hD2
      have HD3 := Aside0.mk hD3
      have e0_ : s.size + r1.size ≤ 9223372036854775807 := by omega
      have e0a_ := eq_true e0_
      have e0b_ : decide (s.size + r1.size ≤ 9223372036854775807) = true := decide_eq_true e0_
      have e0c_ : (9223372036854775807 < s.size + r1.size) = False := eq_false (Nat.not_lt.2 e0_)
      clear e0_
      clear hd hw hz3 hch HGO hgo hsz k0 k1 k2 k3 k4 k5 k6 h1 h2 h3 hA1 hA2 hA3 hD1 hD2 hD3 hqi hqs hY1 hY2 hY3
      go_upto_region 12 with (first | ((with_reducible refine gate_dst (N := 14) rfl ?_); refine box_event ?hg (N := 14) ?hd (cs := #[.int .i64 0, .int .i64 0, .int .i64 0, .int .i64 0]) (t := 52) ?hr ?_; (case hd => rfl); (case hg => rfl); (case hr => first | (go_simp; done) | (go_simp; rfl)); intro gc hg w10 hbox hb; have GC := Aside0.mk (by rw [hg]; exact HB.out.size : w.heap.size ≤ gc); have n1_ := Aside0.mk (below_step HB.out hb); replace y0 := (hb.cell (World.block_lt_of_cell? _ _ y0)).trans y0; replace y1 := (hb.cell (World.block_lt_of_cell? _ _ y1)).trans y1; replace y2 := (hb.cell (World.block_lt_of_cell? _ _ y2)).trans y2; replace y3 := (hb.cell (World.block_lt_of_cell? _ _ y3)).trans y3; clear HB; have HB := n1_; clear n1_; have BC := Aside0.mk hbox; clear hbox hg hb; have o0 := (blk_cell BC.out 0).trans (show _ = some (Value.int .i64 0) from rfl); have o1 := (blk_cell BC.out 1).trans (show _ = some (Value.int .i64 0) from rfl); have o2 := (blk_cell BC.out 2).trans (show _ = some (Value.int .i64 0) from rfl); have o3 := (blk_cell BC.out 3).trans (show _ = some (Value.int .i64 0) from rfl); have k0 := blk_frozen BC.out 0; have k1 := blk_frozen BC.out 1; have k2 := blk_frozen BC.out 2; have k3 := blk_frozen BC.out 3) | ((with_reducible refine gate_store (t := 52) (p := 14) rfl ?_); refine store_event (t := 52) (p := 14) (v := ?vo_sc) (w1 := ((((w10.setCell ⟨gc, 0, none⟩ (.int .i64 ch.f0)).setCell ⟨gc, 1, none⟩ (.int .i64 ch.f1)).setCell ⟨gc, 2, none⟩ (.int .i64 ch.f2)).setCell ⟨gc, 3, none⟩ (.int .i64 ch.f3))) ?hg ?ho ?hn ?hr ?_; (case ho => rfl); (case hg => rfl); (case hn => rfl); (case hr => first | (go_simp; done) | (go_simp; rfl)); intro w11 hw; have n0_ : Aside0 (w11.heap[gc]? = some (.cells #[.int .i64 ch.f0, .int .i64 ch.f1, .int .i64 ch.f2, .int .i64 ch.f3] 52 (0, 0))) := ⟨by rw [hw]; exact blk_put (blk_put (blk_put (blk_put (BC.out) 0 _ rfl) 1 _ rfl) 2 _ rfl) 3 _ rfl⟩; have n1_ : Aside0 (Below w.heap.size w w11) := ⟨by rw [hw]; exact (((HB.out.setCell GC.out _).setCell GC.out _).setCell GC.out _).setCell GC.out _⟩; clear HB BC hw y0 y1 y2 y3 o0 o1 o2 o3 k0 k1 k2 k3; have BC := n0_; have HB := n1_; clear n0_ n1_))
      have c_0 := (blk_cell BC.out 0).trans (show _ = some (Value.int .i64 ch.f0) from rfl)
      have c_1 := (blk_cell BC.out 1).trans (show _ = some (Value.int .i64 ch.f1) from rfl)
      have c_2 := (blk_cell BC.out 2).trans (show _ = some (Value.int .i64 ch.f2) from rfl)
      have c_3 := (blk_cell BC.out 3).trans (show _ = some (Value.int .i64 ch.f3) from rfl)
      go_upto_region 13 with (go_at_call 23; (with_reducible refine (redlineref17_whole.calls k B1 _ Y1 r1 _ (Kd.C_below HE1.out HB.out) HD1.out HA1.out).mono ?_); rintro e w12 ⟨rfl, hd⟩; have n1_ := Aside0.mk (below_step HB.out hd.below); have n2_ := Aside0.mk (blk_below BC.out hd.below); clear HB BC hd c_0 c_1 c_2 c_3; have HB := n1_; have BC := n2_; clear n1_ n2_; have c_0 := (blk_cell BC.out 0).trans (show _ = some (Value.int .i64 ch.f0) from rfl); have c_1 := (blk_cell BC.out 1).trans (show _ = some (Value.int .i64 ch.f1) from rfl); have c_2 := (blk_cell BC.out 2).trans (show _ = some (Value.int .i64 ch.f2) from rfl); have c_3 := (blk_cell BC.out 3).trans (show _ = some (Value.int .i64 ch.f3) from rfl))
      go_quiet (first | (go_at_call 23; (with_reducible refine Calls.quiet_of ((redlineref17_whole.calls k B2 _ Y2 r2 _ (Kd.C_below (Kd.C_below HE2.out HB.out) (pw_below_drewN (Below.refl _ _) _)) HD2.out HA2.out).mono (fun e' w' hh' => ⟨hh'.1, hh'.2.1⟩)))) | (go_at_call 23; (with_reducible refine Calls.quiet_of ((redlineref17_whole.calls k B3 _ Y3 r3 _ (Kd.C_below (Kd.C_below HE3.out HB.out) (pw_below_drewN (Below.refl _ _) _)) HD3.out HA3.out).mono (fun e' w' hh' => ⟨hh'.1, hh'.2.1⟩)))))
      have n1_ := Aside0.mk (pw_below_drewN HB.out nq)
      have n2_ := Aside0.mk (blk_drewN BC.out nq)
      clear HB BC c_0 c_1 c_2 c_3
      generalize World.drewN _ nq = w15 at n1_ n2_ ⊢
      have HB := n1_
      have BC := n2_
      clear n1_ n2_
      have c_0 := (blk_cell BC.out 0).trans (show _ = some (Value.int .i64 ch.f0) from rfl)
      have c_1 := (blk_cell BC.out 1).trans (show _ = some (Value.int .i64 ch.f1) from rfl)
      have c_2 := (blk_cell BC.out 2).trans (show _ = some (Value.int .i64 ch.f2) from rfl)
      have c_3 := (blk_cell BC.out 3).trans (show _ = some (Value.int .i64 ch.f3) from rfl)
      by_cases e3 : ch.f3 = 0
      · have f3 : (ch.f3 == 0) = true := beq_iff_eq.mpr e3
        have HGF : Aside0 (Rf.go k l1 l2 a3 (l0.drop (z + 1).toNat) (ch.f0 + ch.f1) ((((((((s ++ r1) ++ (⟨#[35, 105, 102, 110, 100, 101, 102, 32]⟩ : ByteArray)) ++ a3) ++ (⟨#[10]⟩ : ByteArray)) ++ r2) ++ (⟨#[35, 101, 110, 100, 105, 102, 32, 47, 42, 32, 33, 32]⟩ : ByteArray)) ++ a3) ++ (⟨#[32, 42, 47, 10]⟩ : ByteArray)) = some (at9, s9)) := ⟨by have h := HGO2.out; unfold Rf.put at h; rw [if_pos e3] at h; exact h⟩
        have ea0_ : s.size + r1.size + 8 ≤ 9223372036854775807 := by have := HSZ.out; omega
        have ea0a_ := eq_true ea0_
        have ea0b_ : decide (s.size + r1.size + 8 ≤ 9223372036854775807) = true := decide_eq_true ea0_
        have ea0c_ : (9223372036854775807 < s.size + r1.size + 8) = False := eq_false (Nat.not_lt.2 ea0_)
        clear ea0_
        have ea1_ : s.size + r1.size + 8 + a3.size ≤ 9223372036854775807 := by have := HSZ.out; omega
        have ea1a_ := eq_true ea1_
        have ea1b_ : decide (s.size + r1.size + 8 + a3.size ≤ 9223372036854775807) = true := decide_eq_true ea1_
        have ea1c_ : (9223372036854775807 < s.size + r1.size + 8 + a3.size) = False := eq_false (Nat.not_lt.2 ea1_)
        clear ea1_
        have ea2_ : s.size + r1.size + 8 + a3.size + 1 ≤ 9223372036854775807 := by have := HSZ.out; omega
        have ea2a_ := eq_true ea2_
        have ea2b_ : decide (s.size + r1.size + 8 + a3.size + 1 ≤ 9223372036854775807) = true := decide_eq_true ea2_
        have ea2c_ : (9223372036854775807 < s.size + r1.size + 8 + a3.size + 1) = False := eq_false (Nat.not_lt.2 ea2_)
        clear ea2_
        have ea3_ : s.size + r1.size + 8 + a3.size + 1 + r2.size ≤ 9223372036854775807 := by have := HSZ.out; omega
        have ea3a_ := eq_true ea3_
        have ea3b_ : decide (s.size + r1.size + 8 + a3.size + 1 + r2.size ≤ 9223372036854775807) = true := decide_eq_true ea3_
        have ea3c_ : (9223372036854775807 < s.size + r1.size + 8 + a3.size + 1 + r2.size) = False := eq_false (Nat.not_lt.2 ea3_)
        clear ea3_
        have ea4_ : s.size + r1.size + 8 + a3.size + 1 + r2.size + 12 ≤ 9223372036854775807 := by have := HSZ.out; omega
        have ea4a_ := eq_true ea4_
        have ea4b_ : decide (s.size + r1.size + 8 + a3.size + 1 + r2.size + 12 ≤ 9223372036854775807) = true := decide_eq_true ea4_
        have ea4c_ : (9223372036854775807 < s.size + r1.size + 8 + a3.size + 1 + r2.size + 12) = False := eq_false (Nat.not_lt.2 ea4_)
        clear ea4_
        have ea5_ : s.size + r1.size + 8 + a3.size + 1 + r2.size + 12 + a3.size ≤ 9223372036854775807 := by have := HSZ.out; omega
        have ea5a_ := eq_true ea5_
        have ea5b_ : decide (s.size + r1.size + 8 + a3.size + 1 + r2.size + 12 + a3.size ≤ 9223372036854775807) = true := decide_eq_true ea5_
        have ea5c_ : (9223372036854775807 < s.size + r1.size + 8 + a3.size + 1 + r2.size + 12 + a3.size) = False := eq_false (Nat.not_lt.2 ea5_)
        clear ea5_
        have ea6_ : s.size + r1.size + 8 + a3.size + 1 + r2.size + 12 + a3.size + 4 ≤ 9223372036854775807 := by have := HSZ.out; omega
        have ea6a_ := eq_true ea6_
        have ea6b_ : decide (s.size + r1.size + 8 + a3.size + 1 + r2.size + 12 + a3.size + 4 ≤ 9223372036854775807) = true := decide_eq_true ea6_
        have ea6c_ : (9223372036854775807 < s.size + r1.size + 8 + a3.size + 1 + r2.size + 12 + a3.size + 4) = False := eq_false (Nat.not_lt.2 ea6_)
        clear ea6_
        clear HGO2 e3
        go_wp2
        go_roundg q1
        case measure => omega
        case rel => exact ⟨z + 1, ch.f0 + ch.f1, ((((((((s ++ r1) ++ (⟨#[35, 105, 102, 110, 100, 101, 102, 32]⟩ : ByteArray)) ++ a3) ++ (⟨#[10]⟩ : ByteArray)) ++ r2) ++ (⟨#[35, 101, 110, 100, 105, 102, 32, 47, 42, 32, 33, 32]⟩ : ByteArray)) ++ a3) ++ (⟨#[32, 42, 47, 10]⟩ : ByteArray)), by rfl, by go_num, by go_num, by omega, by have := HZ.out; have := HG.out; omega, ⟨by have := HZ.out; omega⟩, HGF, HB⟩
      have f3 : (ch.f3 == 0) = false := beq_eq_false_iff_ne.mpr e3
      by_cases e1 : ch.f1 = 0
      · have f1 : (ch.f1 == 0) = true := beq_iff_eq.mpr e1
        have HGF : Aside0 (Rf.go k l1 l2 a3 (l0.drop (z + 1).toNat) (ch.f0 + ch.f1) ((((((((s ++ r1) ++ (⟨#[35, 105, 102, 100, 101, 102, 32]⟩ : ByteArray)) ++ a3) ++ (⟨#[10]⟩ : ByteArray)) ++ r3) ++ (⟨#[35, 101, 110, 100, 105, 102, 32, 47, 42, 32]⟩ : ByteArray)) ++ a3) ++ (⟨#[32, 42, 47, 10]⟩ : ByteArray)) = some (at9, s9)) := ⟨by have h := HGO2.out; unfold Rf.put at h; rw [if_neg e3, if_pos e1] at h; exact h⟩
        have eb0_ : s.size + r1.size + 7 ≤ 9223372036854775807 := by have := HSZ.out; omega
        have eb0a_ := eq_true eb0_
        have eb0b_ : decide (s.size + r1.size + 7 ≤ 9223372036854775807) = true := decide_eq_true eb0_
        have eb0c_ : (9223372036854775807 < s.size + r1.size + 7) = False := eq_false (Nat.not_lt.2 eb0_)
        clear eb0_
        have eb1_ : s.size + r1.size + 7 + a3.size ≤ 9223372036854775807 := by have := HSZ.out; omega
        have eb1a_ := eq_true eb1_
        have eb1b_ : decide (s.size + r1.size + 7 + a3.size ≤ 9223372036854775807) = true := decide_eq_true eb1_
        have eb1c_ : (9223372036854775807 < s.size + r1.size + 7 + a3.size) = False := eq_false (Nat.not_lt.2 eb1_)
        clear eb1_
        have eb2_ : s.size + r1.size + 7 + a3.size + 1 ≤ 9223372036854775807 := by have := HSZ.out; omega
        have eb2a_ := eq_true eb2_
        have eb2b_ : decide (s.size + r1.size + 7 + a3.size + 1 ≤ 9223372036854775807) = true := decide_eq_true eb2_
        have eb2c_ : (9223372036854775807 < s.size + r1.size + 7 + a3.size + 1) = False := eq_false (Nat.not_lt.2 eb2_)
        clear eb2_
        have eb3_ : s.size + r1.size + 7 + a3.size + 1 + r3.size ≤ 9223372036854775807 := by have := HSZ.out; omega
        have eb3a_ := eq_true eb3_
        have eb3b_ : decide (s.size + r1.size + 7 + a3.size + 1 + r3.size ≤ 9223372036854775807) = true := decide_eq_true eb3_
        have eb3c_ : (9223372036854775807 < s.size + r1.size + 7 + a3.size + 1 + r3.size) = False := eq_false (Nat.not_lt.2 eb3_)
        clear eb3_
        have eb4_ : s.size + r1.size + 7 + a3.size + 1 + r3.size + 10 ≤ 9223372036854775807 := by have := HSZ.out; omega
        have eb4a_ := eq_true eb4_
        have eb4b_ : decide (s.size + r1.size + 7 + a3.size + 1 + r3.size + 10 ≤ 9223372036854775807) = true := decide_eq_true eb4_
        have eb4c_ : (9223372036854775807 < s.size + r1.size + 7 + a3.size + 1 + r3.size + 10) = False := eq_false (Nat.not_lt.2 eb4_)
        clear eb4_
        have eb5_ : s.size + r1.size + 7 + a3.size + 1 + r3.size + 10 + a3.size ≤ 9223372036854775807 := by have := HSZ.out; omega
        have eb5a_ := eq_true eb5_
        have eb5b_ : decide (s.size + r1.size + 7 + a3.size + 1 + r3.size + 10 + a3.size ≤ 9223372036854775807) = true := decide_eq_true eb5_
        have eb5c_ : (9223372036854775807 < s.size + r1.size + 7 + a3.size + 1 + r3.size + 10 + a3.size) = False := eq_false (Nat.not_lt.2 eb5_)
        clear eb5_
        have eb6_ : s.size + r1.size + 7 + a3.size + 1 + r3.size + 10 + a3.size + 4 ≤ 9223372036854775807 := by have := HSZ.out; omega
        have eb6a_ := eq_true eb6_
        have eb6b_ : decide (s.size + r1.size + 7 + a3.size + 1 + r3.size + 10 + a3.size + 4 ≤ 9223372036854775807) = true := decide_eq_true eb6_
        have eb6c_ : (9223372036854775807 < s.size + r1.size + 7 + a3.size + 1 + r3.size + 10 + a3.size + 4) = False := eq_false (Nat.not_lt.2 eb6_)
        clear eb6_
        clear HGO2 e3 e1
        go_wp2
        go_roundg q1
        case measure => omega
        case rel => exact ⟨z + 1, ch.f0 + ch.f1, ((((((((s ++ r1) ++ (⟨#[35, 105, 102, 100, 101, 102, 32]⟩ : ByteArray)) ++ a3) ++ (⟨#[10]⟩ : ByteArray)) ++ r3) ++ (⟨#[35, 101, 110, 100, 105, 102, 32, 47, 42, 32]⟩ : ByteArray)) ++ a3) ++ (⟨#[32, 42, 47, 10]⟩ : ByteArray)), by rfl, by go_num, by go_num, by omega, by have := HZ.out; have := HG.out; omega, ⟨by have := HZ.out; omega⟩, HGF, HB⟩
      have f1 : (ch.f1 == 0) = false := beq_eq_false_iff_ne.mpr e1
      have HGF : Aside0 (Rf.go k l1 l2 a3 (l0.drop (z + 1).toNat) (ch.f0 + ch.f1) ((((((((((((s ++ r1) ++ (⟨#[35, 105, 102, 110, 100, 101, 102, 32]⟩ : ByteArray)) ++ a3) ++ (⟨#[10]⟩ : ByteArray)) ++ r2) ++ (⟨#[35, 101, 108, 115, 101, 32, 47, 42, 32]⟩ : ByteArray)) ++ a3) ++ (⟨#[32, 42, 47, 10]⟩ : ByteArray)) ++ r3) ++ (⟨#[35, 101, 110, 100, 105, 102, 32, 47, 42, 32]⟩ : ByteArray)) ++ a3) ++ (⟨#[32, 42, 47, 10]⟩ : ByteArray)) = some (at9, s9)) := ⟨by have h := HGO2.out; unfold Rf.put at h; rw [if_neg e3, if_neg e1] at h; exact h⟩
      have ec0_ : s.size + r1.size + 8 ≤ 9223372036854775807 := by have := HSZ.out; omega
      have ec0a_ := eq_true ec0_
      have ec0b_ : decide (s.size + r1.size + 8 ≤ 9223372036854775807) = true := decide_eq_true ec0_
      have ec0c_ : (9223372036854775807 < s.size + r1.size + 8) = False := eq_false (Nat.not_lt.2 ec0_)
      clear ec0_
      have ec1_ : s.size + r1.size + 8 + a3.size ≤ 9223372036854775807 := by have := HSZ.out; omega
      have ec1a_ := eq_true ec1_
      have ec1b_ : decide (s.size + r1.size + 8 + a3.size ≤ 9223372036854775807) = true := decide_eq_true ec1_
      have ec1c_ : (9223372036854775807 < s.size + r1.size + 8 + a3.size) = False := eq_false (Nat.not_lt.2 ec1_)
      clear ec1_
      have ec2_ : s.size + r1.size + 8 + a3.size + 1 ≤ 9223372036854775807 := by have := HSZ.out; omega
      have ec2a_ := eq_true ec2_
      have ec2b_ : decide (s.size + r1.size + 8 + a3.size + 1 ≤ 9223372036854775807) = true := decide_eq_true ec2_
      have ec2c_ : (9223372036854775807 < s.size + r1.size + 8 + a3.size + 1) = False := eq_false (Nat.not_lt.2 ec2_)
      clear ec2_
      have ec3_ : s.size + r1.size + 8 + a3.size + 1 + r2.size ≤ 9223372036854775807 := by have := HSZ.out; omega
      have ec3a_ := eq_true ec3_
      have ec3b_ : decide (s.size + r1.size + 8 + a3.size + 1 + r2.size ≤ 9223372036854775807) = true := decide_eq_true ec3_
      have ec3c_ : (9223372036854775807 < s.size + r1.size + 8 + a3.size + 1 + r2.size) = False := eq_false (Nat.not_lt.2 ec3_)
      clear ec3_
      have ec4_ : s.size + r1.size + 8 + a3.size + 1 + r2.size + 9 ≤ 9223372036854775807 := by have := HSZ.out; omega
      have ec4a_ := eq_true ec4_
      have ec4b_ : decide (s.size + r1.size + 8 + a3.size + 1 + r2.size + 9 ≤ 9223372036854775807) = true := decide_eq_true ec4_
      have ec4c_ : (9223372036854775807 < s.size + r1.size + 8 + a3.size + 1 + r2.size + 9) = False := eq_false (Nat.not_lt.2 ec4_)
      clear ec4_
      have ec5_ : s.size + r1.size + 8 + a3.size + 1 + r2.size + 9 + a3.size ≤ 9223372036854775807 := by have := HSZ.out; omega
      have ec5a_ := eq_true ec5_
      have ec5b_ : decide (s.size + r1.size + 8 + a3.size + 1 + r2.size + 9 + a3.size ≤ 9223372036854775807) = true := decide_eq_true ec5_
      have ec5c_ : (9223372036854775807 < s.size + r1.size + 8 + a3.size + 1 + r2.size + 9 + a3.size) = False := eq_false (Nat.not_lt.2 ec5_)
      clear ec5_
      have ec6_ : s.size + r1.size + 8 + a3.size + 1 + r2.size + 9 + a3.size + 4 ≤ 9223372036854775807 := by have := HSZ.out; omega
      have ec6a_ := eq_true ec6_
      have ec6b_ : decide (s.size + r1.size + 8 + a3.size + 1 + r2.size + 9 + a3.size + 4 ≤ 9223372036854775807) = true := decide_eq_true ec6_
      have ec6c_ : (9223372036854775807 < s.size + r1.size + 8 + a3.size + 1 + r2.size + 9 + a3.size + 4) = False := eq_false (Nat.not_lt.2 ec6_)
      clear ec6_
      have ec7_ : s.size + r1.size + 8 + a3.size + 1 + r2.size + 9 + a3.size + 4 + r3.size ≤ 9223372036854775807 := by have := HSZ.out; omega
      have ec7a_ := eq_true ec7_
      have ec7b_ : decide (s.size + r1.size + 8 + a3.size + 1 + r2.size + 9 + a3.size + 4 + r3.size ≤ 9223372036854775807) = true := decide_eq_true ec7_
      have ec7c_ : (9223372036854775807 < s.size + r1.size + 8 + a3.size + 1 + r2.size + 9 + a3.size + 4 + r3.size) = False := eq_false (Nat.not_lt.2 ec7_)
      clear ec7_
      have ec8_ : s.size + r1.size + 8 + a3.size + 1 + r2.size + 9 + a3.size + 4 + r3.size + 10 ≤ 9223372036854775807 := by have := HSZ.out; omega
      have ec8a_ := eq_true ec8_
      have ec8b_ : decide (s.size + r1.size + 8 + a3.size + 1 + r2.size + 9 + a3.size + 4 + r3.size + 10 ≤ 9223372036854775807) = true := decide_eq_true ec8_
      have ec8c_ : (9223372036854775807 < s.size + r1.size + 8 + a3.size + 1 + r2.size + 9 + a3.size + 4 + r3.size + 10) = False := eq_false (Nat.not_lt.2 ec8_)
      clear ec8_
      have ec9_ : s.size + r1.size + 8 + a3.size + 1 + r2.size + 9 + a3.size + 4 + r3.size + 10 + a3.size ≤ 9223372036854775807 := by have := HSZ.out; omega
      have ec9a_ := eq_true ec9_
      have ec9b_ : decide (s.size + r1.size + 8 + a3.size + 1 + r2.size + 9 + a3.size + 4 + r3.size + 10 + a3.size ≤ 9223372036854775807) = true := decide_eq_true ec9_
      have ec9c_ : (9223372036854775807 < s.size + r1.size + 8 + a3.size + 1 + r2.size + 9 + a3.size + 4 + r3.size + 10 + a3.size) = False := eq_false (Nat.not_lt.2 ec9_)
      clear ec9_
      have ec10_ : s.size + r1.size + 8 + a3.size + 1 + r2.size + 9 + a3.size + 4 + r3.size + 10 + a3.size + 4 ≤ 9223372036854775807 := by have := HSZ.out; omega
      have ec10a_ := eq_true ec10_
      have ec10b_ : decide (s.size + r1.size + 8 + a3.size + 1 + r2.size + 9 + a3.size + 4 + r3.size + 10 + a3.size + 4 ≤ 9223372036854775807) = true := decide_eq_true ec10_
      have ec10c_ : (9223372036854775807 < s.size + r1.size + 8 + a3.size + 1 + r2.size + 9 + a3.size + 4 + r3.size + 10 + a3.size + 4) = False := eq_false (Nat.not_lt.2 ec10_)
      clear ec10_
      clear HGO2 e3 e1
      go_wp2
      go_roundg q1
      case measure => omega
      case rel => exact ⟨z + 1, ch.f0 + ch.f1, ((((((((((((s ++ r1) ++ (⟨#[35, 105, 102, 110, 100, 101, 102, 32]⟩ : ByteArray)) ++ a3) ++ (⟨#[10]⟩ : ByteArray)) ++ r2) ++ (⟨#[35, 101, 108, 115, 101, 32, 47, 42, 32]⟩ : ByteArray)) ++ a3) ++ (⟨#[32, 42, 47, 10]⟩ : ByteArray)) ++ r3) ++ (⟨#[35, 101, 110, 100, 105, 102, 32, 47, 42, 32]⟩ : ByteArray)) ++ a3) ++ (⟨#[32, 42, 47, 10]⟩ : ByteArray)), by rfl, by go_num, by go_num, by omega, by have := HZ.out; have := HG.out; omega, ⟨by have := HZ.out; omega⟩, HGF, HB⟩
end Go.Proofs.Ytnbeppnpfdempaa.X
