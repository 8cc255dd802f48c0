import Derived.Test.YtnbeppnpfdempaaZAXx0
import Derived.Test.YtnbeppnpfdempaaZAXx52
import Derived.Test.YtnbeppnpfdempaaZAXx69
import Derived.Deep.OwnRows
import Derived.Lib.SliceRun
namespace Go.Proofs.Ytnbeppnpfdempaa.X
open Go.RowKit Go.Proofs.YtnbeppnpfdempaaW.PrintWords Go.Proofs.YtnbeppnpfdempaaW.PrintLast Go.Proofs.YtnbeppnpfdempaaW.PrintMore
attribute [local go_sem] max2_int min2_int max_two min_two max_three min_three max_four min_four   -- for this text's walks alone
open Go.Proofs.YtnbeppnpfdempaaW.HandWords
set_option linter.unusedVariables false
set_option linter.unusedSimpArgs false
namespace Ap
abbrev Fl := Int × Int × Int × Int × (Option Addr × Nat × Nat)
abbrev zf : Fl := (0, 0, 0, 0, (none, 0, 0))
def kfl : Kd Fl := Kd.pair (Kd.int .i64) (Kd.pair (Kd.int .i64) (Kd.pair (Kd.int .i64) (Kd.pair (Kd.int .i64) (Kd.scalar (fun s : Option Addr × Nat × Nat => Value.slice s.1 s.2.1 s.2.2) (fun _ => rfl)))))
theorem kfl_openM {w : World} {base : Nat} {ok : Nat → Prop} {x : Fl} {cs : List Value} (h : kfl.M w base ok x cs) : cs = [.int .i64 x.1, .int .i64 x.2.1, .int .i64 x.2.2.1, .int .i64 x.2.2.2.1, .slice x.2.2.2.2.1 x.2.2.2.2.2.1 x.2.2.2.2.2.2] := by
  obtain ⟨_, _, rfl, rfl, ⟨_, _, rfl, rfl, ⟨_, _, rfl, rfl, ⟨_, _, rfl, rfl, rfl⟩⟩⟩⟩ := h
  rfl
theorem kfl_open {w : World} {x : Fl} {cs : List Value} (h : kfl.K w x cs) : cs = [.int .i64 x.1, .int .i64 x.2.1, .int .i64 x.2.2.1, .int .i64 x.2.2.2.1, .slice x.2.2.2.2.1 x.2.2.2.2.2.1 x.2.2.2.2.2.2] := by
  obtain ⟨_, _, rfl, rfl, ⟨_, _, rfl, rfl, ⟨_, _, rfl, rfl, ⟨_, _, rfl, rfl, rfl⟩⟩⟩⟩ := h
  rfl
theorem kfl_mkM (w : World) (base : Nat) (ok : Nat → Prop) (x : Fl) : kfl.M w base ok x [.int .i64 x.1, .int .i64 x.2.1, .int .i64 x.2.2.1, .int .i64 x.2.2.2.1, .slice x.2.2.2.2.1 x.2.2.2.2.2.1 x.2.2.2.2.2.2] :=
  ⟨[_], _, rfl, rfl, [_], _, rfl, rfl, [_], _, rfl, rfl, [_], _, rfl, rfl, rfl⟩
theorem kfl_mk (w : World) (x : Fl) : kfl.K w x [.int .i64 x.1, .int .i64 x.2.1, .int .i64 x.2.2.1, .int .i64 x.2.2.2.1, .slice x.2.2.2.2.1 x.2.2.2.2.2.1 x.2.2.2.2.2.2] :=
  ⟨[_], _, rfl, rfl, [_], _, rfl, rfl, [_], _, rfl, rfl, [_], _, rfl, rfl, rfl⟩
def Lk (W : World) (x : Fl) (h : S57) : Prop := x.1 = h.f0 ∧ x.2.1 = h.f1 ∧ x.2.2.1 = h.f2 ∧ x.2.2.2.1 = h.f3 ∧ x.2.2.2.2.2.1 = h.f4.length ∧ h.f4.length ≤ x.2.2.2.2.2.2 ∧ Kd.C k76 W x.2.2.2.2.1 h.f4.length h.f4
def Lm (W : World) (base : Nat) (x : Fl) (h : S57) : Prop := x.1 = h.f0 ∧ x.2.1 = h.f1 ∧ x.2.2.1 = h.f2 ∧ x.2.2.2.1 = h.f3 ∧ Kd.R k76 76 W base (fun _ => True) (.slice x.2.2.2.2.1 x.2.2.2.2.2.1 x.2.2.2.2.2.2) h.f4
theorem Lm.lk {W : World} {base : Nat} {x : Fl} {h : S57} (l : Lm W base x h) : Lk W x h := by
  obtain ⟨a, b, c, d, e⟩ := l
  have r := Kd.R_reads' e
  exact ⟨a, b, c, d, r.1, by rw [← r.1]; exact r.2.1, r.2.2⟩
theorem Lm.below {W W1 : World} {base : Nat} {x : Fl} {h : S57} (l : Lm W base x h) (hb : Below W.heap.size W W1) : Lm W1 base x h := ⟨l.1, l.2.1, l.2.2.1, l.2.2.2.1, Kd.R_below l.2.2.2.2 hb⟩
theorem Lm.fill {W : World} {base g t : Nat} {cells : Array Value} {x : Fl} {h : S57} (l : Lm W base x h) (hb : W.heap[g]? = some (.cells cells t (0, 0))) (ht : t ≠ 76) (i0 i1 i2 i3 i4 : Nat) (a0 a1 a2 a3 a4 : Value) :
    Lm (((((W.setCell ⟨g, i0, none⟩ a0).setCell ⟨g, i1, none⟩ a1).setCell ⟨g, i2, none⟩ a2).setCell ⟨g, i3, none⟩ a3).setCell ⟨g, i4, none⟩ a4) base x h :=
  ⟨l.1, l.2.1, l.2.2.1, l.2.2.2.1, Kd.R_mono (Kd.R_far (Kd.R_far (Kd.R_far (Kd.R_far (Kd.R_far (Kd.R_types l.2.2.2.2 hb (hi_ne ht)) (fun k hk => hk.2) _) (fun k hk => hk.2) _) (fun k hk => hk.2) _) (fun k hk => hk.2) _) (fun k hk => hk.2) _) (fun _ _ => trivial)⟩
theorem fl_of_C {W : World} {Ad : Option Addr} {l : List S57} (h : Kd.C k57 W Ad l.length l) : ∃ fl : List Fl, fl.length = l.length ∧ Kd.C kfl W Ad fl.length fl ∧ ∀ j, j < l.length → Lk W (fl.getD j zf) (l.getD j z57) := by
  obtain ⟨_, hm, h3⟩ := h
  by_cases h0 : 0 < l.length
  case neg =>
    have hl : l = [] := List.eq_nil_of_length_eq_zero (by omega)
    subst hl
    exact ⟨[], rfl, ⟨rfl, Nat.zero_le _, fun hn => absurd hn (Nat.lt_irrefl 0)⟩, fun j hj => absurd hj (Nat.not_lt_zero j)⟩
  obtain ⟨ad, hA, h4⟩ := h3 h0
  have hel : ∀ j, j < l.length → ∃ x : Fl, Lk W x (l.getD j z57) ∧ ∀ i u, ([.int .i64 x.1, .int .i64 x.2.1, .int .i64 x.2.2.1, .int .i64 x.2.2.2.1, .slice x.2.2.2.2.1 x.2.2.2.2.2.1 x.2.2.2.2.2.2] : List Value)[i]? = some u → W.cell? (ad.add (j * 5 + i)) = some u := by
    intro j hj
    obtain ⟨c, hc, hK, hcell⟩ := h4 j (l.getD j z57) (by rw [List.getD_eq_getElem?_getD, List.getElem?_eq_getElem hj]; rfl)
    obtain ⟨A4, c4, rfl, l4, g4⟩ := k57_open hK
    exact ⟨(_, _, _, _, (A4, _, c4)), ⟨rfl, rfl, rfl, rfl, rfl, l4, g4⟩, hcell⟩
  have hch : ∃ Y : Nat → Fl, ∀ j, j < l.length → Lk W (Y j) (l.getD j z57) ∧ ∀ i u, ([.int .i64 (Y j).1, .int .i64 (Y j).2.1, .int .i64 (Y j).2.2.1, .int .i64 (Y j).2.2.2.1, .slice (Y j).2.2.2.2.1 (Y j).2.2.2.2.2.1 (Y j).2.2.2.2.2.2] : List Value)[i]? = some u → W.cell? (ad.add (j * 5 + i)) = some u := by
    classical
    refine ⟨fun j => if hj : j < l.length then Classical.choose (hel j hj) else zf, fun j hj => ?_⟩
    simp only [dif_pos hj]
    exact Classical.choose_spec (hel j hj)
  obtain ⟨Y, hY⟩ := hch
  have hg : ∀ j, j < l.length → ((List.range l.length).map Y).getD j zf = Y j := by
    intro j hj
    simp [List.getD_eq_getElem?_getD, List.getElem?_range hj]
  refine ⟨(List.range l.length).map Y, by simp, ⟨rfl, by simpa using hm, fun _ => ⟨ad, hA, fun j p hj => ?_⟩⟩, fun j hj => by rw [hg j hj]; exact (hY j hj).1⟩
  have hj2 : j < l.length := by have := (List.getElem?_eq_some_iff.1 hj).1; simpa using this
  simp only [List.getElem?_map, List.getElem?_range hj2, Option.map_some, Option.some.injEq] at hj
  subst hj
  exact ⟨_, rfl, kfl_mk W (Y j), (hY j hj2).2⟩
theorem C_of_fl {W : World} {Ad : Option Addr} {l : List S57} {fl : List Fl} (h : Kd.C kfl W Ad fl.length fl) (hl : fl.length = l.length) (hk : ∀ j, j < l.length → Lk W (fl.getD j zf) (l.getD j z57)) : Kd.C k57 W Ad l.length l := by
  obtain ⟨_, hm, h3⟩ := h
  refine ⟨rfl, by omega, fun h0 => ?_⟩
  obtain ⟨ad, hA, h4⟩ := h3 (by omega)
  refine ⟨ad, hA, fun j p hj => ?_⟩
  have hj2 : j < l.length := (List.getElem?_eq_some_iff.1 hj).1
  have hp : l.getD j z57 = p := by rw [List.getD_eq_getElem?_getD, hj]; rfl
  obtain ⟨a, b, c, d, e, f, g⟩ := hk j hj2
  obtain ⟨cs, hc, hK, hcell⟩ := h4 j (fl.getD j zf) (by rw [List.getD_eq_getElem?_getD, List.getElem?_eq_getElem (by omega)]; rfl)
  obtain rfl := kfl_open hK
  rw [hp] at a b c d e f g
  rw [a, b, c, d, e] at hcell
  exact ⟨_, rfl, ⟨[_], _, rfl, rfl, [_], _, rfl, rfl, [_], _, rfl, rfl, [_], _, rfl, rfl, ⟨_, _, rfl, f, g⟩⟩, hcell⟩
def inv (h : S57) : S57 := ⟨h.f2, h.f3, h.f0, h.f1, (hi_go h.f4 [] []).1 ++ (hi_go h.f4 [] []).2⟩
set_option maxHeartbeats 2000000 in
set_option maxRecDepth 100000 in
theorem Clone.calls (A0 : Option Addr) (c0 : Nat) (l0 : List Fl) (w : World) (hr0 : Kd.C kfl w A0 l0.length l0) (hc0 : l0.length ≤ c0) (hl : l0.length * 56 ≤ 140737488355328) :
    Calls Try.prog 37 #[.slice A0 l0.length c0] w fun e w' => ∃ v0_ : Value, e = .returned (v0_) ∧ Kd.R kfl 57 w' w.heap.size (fun _ => True) v0_ l0 ∧ Below w.heap.size w w' := by
  have HL0 := Aside0.mk hl
  have HC0 := Aside0.mk hc0
  have HR0 := Aside0.mk hr0
  have HB := Aside0.mk (Below.refl w.heap.size w)
  have qn : ∀ (W : World) (a : Option Addr) (n c : Nat), (binOp .eql 28 (.slice a n c) (.slice none 0 0)).run Try.prog W = .ok (.bool a.isNone) W := fun W a n c => Lib.run_eql_slice_nil W _ _ a n c 0 0 Try.underlying28
  have qn1 : ∀ (W : World) (n c : Nat), (binOp .eql 28 (.slice none n c) (.slice none 0 0)).run Try.prog W = .ok (.bool true) W := fun W n c => qn W none n c
  have qn2 : ∀ (W : World) (a : Addr) (n c : Nat), (binOp .eql 28 (.slice (some a) n c) (.slice none 0 0)).run Try.prog W = .ok (.bool false) W := fun W a n c => qn W (some a) n c
  clear qn
  clear hl hc0 hr0
  cases A0 with
  | none =>
    have hz : l0 = [] := by
      have := HR0.out.2.2
      cases l0 with
      | nil => rfl
      | cons p ps => obtain ⟨ad, e, _⟩ := this (by simp); cases e
    subst hz
    go_enter Try.func37, Try.ntmps37
    go_wp2
    go_ret
    exact ⟨_, rfl, Kd.R_nil _ _ _ _ _, HB.out⟩
  | some ad =>
    go_enter Try.func37, Try.ntmps37
    go_wp2_with (first | ((with_reducible refine gate_dst (N := 5) rfl ?_); (try (refine gate_guard (by rfl) ?_; dsimp only)); refine Kd.R_lit kfl _ 57 ?hg (N := 5) ?hd (xs := ([] : List Fl)) (inner := []) (ok := fun _ => True) (okp := fun _ => True) ?hr ?hp (fun _ hk => hk) trivial (Below.refl _ _) (Nat.le_refl _) (by simp) ?_; (case hd => rfl); (case hg => rfl); (case hr => first | (go_simp; done) | (go_simp; rfl)); (case hp => exact (Reps.none _ _)); intro v1 w1 ho1 hb hg_ hnew_; clear hg_ hnew_; have HO1 := Aside0.mk ho1; have HB1 := Aside0.mk hb; clear hb ho1) | ((with_reducible refine gate_builtin (b := .append) (xs := #[.tmp 5, .tmp 6]) rfl ?_); (try (refine gate_guard (by rfl) ?_; dsimp only)); at_builtin; refine @Kd.R_append_rows Try.prog _ _ _ _ _ _ kfl (kfl.K w1) w w1 w.heap.size rfl (.tmp 5) (.tmp 6) 28 57 (.agg #[(.int .i64 0), (.int .i64 0), (.int .i64 0), (.int .i64 0), (.slice none 0 0)]) 56 rfl Try.underlying28 info57 rfl (by decide) (by omega) v1 ([] : List Fl) l0 (some ad) l0.length c0 (fun _ => True) (fun _ => False) rfl rfl ?aO ?aR ?aK (fun _ h => h.elim) ?aF ?aB ?aS ?aL ?_; (case aR => exact Kd.C_below HR0.out HB1.out); (case aK => intro x cs hk; obtain rfl := kfl_open hk; exact kfl_mkM _ _ _ x); (case aB => exact HB1.out); (case aF => exact (fun _ _ => trivial)); (case aO => exact HO1.out); (case aS => exact HB1.out.size); (case aL => have := HL0.out; simp only [List.length_nil]; omega); intro v2 w2 ho hb hg hat; have HO2 := Aside0.mk ho; have HB2 := Aside0.mk hb; clear ho hb hg hat))
    go_ret
    exact ⟨v2, rfl, by have := HO2.out; rw [List.nil_append] at this; exact this, HB2.out⟩
theorem seg5 {W : World} {base g n cap : Nat} {xs : List Fl} (h : Kd.R kfl 57 W base (fun _ => True) (.slice (some ⟨g, 0, none⟩) n cap) xs) (z : Int) (h0 : 0 ≤ z) (h1 : z < n) {c : List Value} (hcl : c.length = kfl.sz) (hcc : ∀ j u, c[j]? = some u → W.cell? ⟨g, z.toNat * kfl.sz + j, none⟩ = some u) (b0 b1 b2 b3 : Int) (A7 : Option Addr) (n7 c7 : Nat) :
    Kd.R kfl 57 (((((W.setCell ⟨g, z.toNat * 5, none⟩ (.int .i64 b0)).setCell ⟨g, z.toNat * 5 + 1, none⟩ (.int .i64 b1)).setCell ⟨g, z.toNat * 5 + 2, none⟩ (.int .i64 b2)).setCell ⟨g, z.toNat * 5 + 3, none⟩ (.int .i64 b3)).setCell ⟨g, z.toNat * 5 + 4, none⟩ (.slice A7 n7 c7)) base (fun _ => True) (.slice (some ⟨g, 0, none⟩) n cap) (xs.set z.toNat (b0, b1, b2, b3, (A7, n7, c7))) := by
  have hs := Kd.R_seg h z h0 h1 (seg := [.int .i64 b0, .int .i64 b1, .int .i64 b2, .int .i64 b3, .slice A7 n7 c7]) (j := 0) hcl hcc (show 5 ≤ 5 from Nat.le_refl 5) (x' := ((b0, b1, b2, b3, (A7, n7, c7)) : Fl)) (okp := fun _ => False) (by
    have e : c.drop 5 = [] := List.drop_eq_nil_of_le (by rw [hcl]; exact Nat.le_refl 5)
    simp only [List.take_zero, List.nil_append, List.length_cons, List.length_nil, Nat.zero_add]
    rw [e, List.append_nil]
    exact kfl_mkM _ _ _ ((b0, b1, b2, b3, (A7, n7, c7)) : Fl)) (fun _ hk => hk.elim)
  exact hs.1
end Ap
def apply_Applied.f (k : Nat) (l0 : List S57) (l1 : List ByteArray) : Option Bool := if (decide (l0.length * 56 ≤ 140737488355328) && l0.all (fun h => decide (h.f4.length ≤ 5864062014804))) = true then (apply_Strict.f k l0 l1).bind fun t => (apply_Strict.f k (l0.map Ap.inv) l1).bind fun u => some (decide ((l0.length : Int) > 0) && (t.2 != 0 && u.2 == 0)) else none
set_option maxHeartbeats 4000000 in
set_option maxRecDepth 100000 in
theorem apply_Applied.calls (k : Nat) (A0 : Option Addr) (c0 : Nat) (l0 : List S57) (A1 : Option Addr) (c1 : Nat) (l1 : List ByteArray) (r : Bool) (w : World) (hr0 : Kd.C k57 w A0 l0.length l0) (hc0 : l0.length ≤ c0) (hr1 : Kd.C Kd.string w A1 l1.length l1) (hc1 : l1.length ≤ c1) (h : apply_Applied.f k l0 l1 = some r) :
    Calls Try.prog 11 #[.slice A0 l0.length c0, .slice A1 l1.length c1] w fun e w' => e = .returned (.bool r) ∧ Below w.heap.size w w' := by
  unfold apply_Applied.f at h
  by_cases hg : (decide (l0.length * 56 ≤ 140737488355328) && l0.all (fun h => decide (h.f4.length ≤ 5864062014804))) = true
  case neg => rw [if_neg hg] at h; cases h
  rw [if_pos hg] at h
  rw [Bool.and_eq_true] at hg
  have hg1 : l0.length * 56 ≤ 140737488355328 := of_decide_eq_true hg.1
  have hg2 : ∀ h ∈ l0, h.f4.length ≤ 5864062014804 := fun h hh => of_decide_eq_true (List.all_eq_true.1 hg.2 h hh)
  clear hg
  obtain ⟨⟨t1, t2⟩, hT, h⟩ := Option.bind_eq_some_iff.mp h
  obtain ⟨⟨u1, u2⟩, hU, h⟩ := Option.bind_eq_some_iff.mp h
  have h9 : (decide ((l0.length : Int) > 0) && (t2 != 0 && u2 == 0)) = r := Option.some.inj h
  clear h
  obtain ⟨fl, hfl, hfc, hfk⟩ := Ap.fl_of_C hr0
  have hlm : (l0.map Ap.inv).length = l0.length := List.length_map ..
  obtain ⟨bk, hbk⟩ : ∃ bk, l0.map Ap.inv = bk := ⟨_, rfl⟩
  rw [hbk] at hU hlm
  have HLM := Aside0.mk hlm
  have HBK := Aside0.mk hbk
  have HT := Aside0.mk hT
  have HU := Aside0.mk hU
  have H9 := Aside0.mk h9
  have HG1 := Aside0.mk hg1
  have HG2 := Aside0.mk hg2
  have HR0 := Aside0.mk hr0
  have HC0 := Aside0.mk hc0
  have HR1 := Aside0.mk hr1
  have HC1 := Aside0.mk hc1
  have HFC : Aside0 (Kd.C Ap.kfl w A0 fl.length fl) := Aside0.mk hfc
  have HFL := Aside0.mk hfl
  have HFK := Aside0.mk hfk
  have HB := Aside0.mk (Below.refl w.heap.size w)
  clear hT hU h9 hg1 hg2 hr0 hc0 hr1 hc1 hfc hfl hfk hlm hbk
  go_enter Try.func11, Try.ntmps11
  go_upto_region 2 with (go_at_call 8; refine (apply_Strict.calls k _ _ l0 _ _ l1 t1 t2 w HR0.out HC0.out HR1.out HC1.out HT.out).mono ?_; rintro e w1 ⟨v1, rfl, _, hb⟩; have n1_ := Aside0.mk (below_step HB.out hb); clear HB hb; have HB := n1_; clear n1_)
  go_upto_region 3 with (go_at_call 37; refine (Calls.mono (by have hc := Ap.Clone.calls A0 c0 fl w1 (Kd.C_below HFC.out HB.out) (by rw [HFL.out]; exact HC0.out) (by rw [HFL.out]; exact HG1.out); rw [HFL.out] at hc; exact hc) ?_); rintro e w2 ⟨v2, rfl, hs, hb⟩; obtain ⟨Ab, cb, rfl⟩ := Kd.R_slice hs; have n1_ := Aside0.mk (below_step HB.out hb); have HX := Aside0.mk (Kd.R_lower hs HB.out.size); clear HB hb hs; have HB := n1_; clear n1_)
  rw [HFL.out] at HX ⊢
  go_wp2
  go_loopg [22] l0.length (fun q v22 w' => ∃ (z : Int) (xs : List Ap.Fl), v22 = .int .i64 z ∧ 0 ≤ z ∧ z ≤ 10000000000000 ∧ Aside0 (z + (q : Int) = l0.length) ∧ Aside0 (xs.length = l0.length ∧ ∀ j, z.toNat ≤ j → j < l0.length → xs.getD j Ap.zf = fl.getD j Ap.zf) ∧ Aside0 (∀ j, j < z.toNat → j < l0.length → Ap.Lm w' w.heap.size (xs.getD j Ap.zf) (bk.getD j z57)) ∧ Aside0 (Kd.R Ap.kfl 57 w' w.heap.size (fun _ => True) (.slice Ab l0.length cb) xs) ∧ Aside0 (Below w.heap.size w w'))
  case atStart => exact ⟨0, fl, rfl, by omega, by omega, ⟨by omega⟩, ⟨HFL.out, fun _ _ _ => rfl⟩, ⟨fun j hj => absurd hj (Nat.not_lt_zero j)⟩, HX, HB⟩
  case round =>
    clear HX HB
    obtain ⟨z, xs, rfl, hz1, hz2, HZ, HXL, HM, HX, HB⟩ := hrel
    cases gk with
    | zero =>
      have hzl : z = (l0.length : Int) := by have := HZ.out; omega
      subst hzl
      have hp : ((l0.length : Int) < (l0.length : Int)) = False := eq_false (Int.lt_irrefl _)
      have HCB : Aside0 (Kd.C k57 wr Ab bk.length bk) := ⟨Ap.C_of_fl (Kd.R_reads' HX.out).2.2 (HXL.out.1.trans HLM.out.symm) (fun j hj => (HM.out j (by have := HLM.out; omega) (by have := HLM.out; omega)).lk)⟩
      have HCC : Aside0 (bk.length ≤ cb) := ⟨by have h := (Kd.R_reads' HX.out).2.1; have := HLM.out; omega⟩
      have HLE : Aside0 (l0.length = bk.length) := ⟨HLM.out.symm⟩
      go_upto_region 9 with (go_at_call 8; refine (Calls.mono (by have hc := apply_Strict.calls k _ _ bk _ _ l1 u1 u2 wr HCB.out HCC.out (Kd.C_below HR1.out HB.out) HC1.out HU.out; rw [HLM.out] at hc; exact hc) ?_); rintro e w7 ⟨v7, rfl, _, hb⟩; have n1_ := Aside0.mk (below_step HB.out hb); clear HB hb; have HB := n1_; clear n1_)
      by_cases e1 : (l0.length : Int) > 0
      · have f1 : decide ((l0.length : Int) > 0) = true := decide_eq_true e1
        have f1b : decide ((0 : Int) < (l0.length : Int)) = true := decide_eq_true e1
        by_cases e2 : t2 = 0
        · have f2 : (t2 != 0) = false := bne_eq_false_iff_eq.mpr e2
          go_wp2
          go_ret
          exact ⟨(show Ending.returned (Value.bool false) = _ from by rw [← H9.out]; simp only [f1, f2, Bool.true_and, Bool.false_and, Bool.and_false, Bool.and_true]), HB.out⟩
        · have f2 : (t2 != 0) = true := bne_iff_ne.mpr e2
          by_cases e3 : u2 = 0
          · have f3 : (u2 == 0) = true := beq_iff_eq.mpr e3
            go_wp2
            go_ret
            exact ⟨(show Ending.returned (Value.bool true) = _ from by rw [← H9.out]; simp only [f1, f2, f3, Bool.true_and, Bool.false_and, Bool.and_false, Bool.and_true]), HB.out⟩
          · have f3 : (u2 == 0) = false := beq_eq_false_iff_ne.mpr e3
            go_wp2
            go_ret
            exact ⟨(show Ending.returned (Value.bool false) = _ from by rw [← H9.out]; simp only [f1, f2, f3, Bool.true_and, Bool.false_and, Bool.and_false, Bool.and_true]), HB.out⟩
      · have f1 : decide ((l0.length : Int) > 0) = false := decide_eq_false e1
        have f1b : decide ((0 : Int) < (l0.length : Int)) = false := decide_eq_false e1
        go_wp2
        go_ret
        exact ⟨(show Ending.returned (Value.bool false) = _ from by rw [← H9.out]; simp only [f1, Bool.true_and, Bool.false_and, Bool.and_false, Bool.and_true]), HB.out⟩
    | succ q1 =>
      have hzl : decide (z < (l0.length : Int)) = true := decide_eq_true (by have := HZ.out; omega)
      have hz3 := of_decide_eq_true hzl
      have hzn : z.toNat < l0.length := by omega
      obtain ⟨gb, cb2, eb, hgb, hgl, cells, hcell⟩ := Kd.R_form HX.out (by have := HXL.out.1; omega)
      injection eb with e1 e2 e3
      subst e1 e3
      clear e2
      obtain ⟨ce, hcel, hMe, hcce, hfre⟩ := Kd.R_elem HX.out Ap.zf z hz1 hz3
      obtain rfl := Ap.kfl_openM hMe
      have hxz : xs.getD z.toNat Ap.zf = fl.getD z.toNat Ap.zf := HXL.out.2 z.toNat (Nat.le_refl _) hzn
      obtain ⟨hh, hhe⟩ : ∃ h, l0.getD z.toNat z57 = h := ⟨_, rfl⟩
      have hlk := HFK.out z.toNat hzn
      rw [← hxz, hhe] at hlk
      obtain ⟨⟨x0, x1, x2, x3, xA, xn, xc⟩, hx⟩ : ∃ x, xs.getD z.toNat Ap.zf = x := ⟨_, rfl⟩
      rw [hx] at hlk hcce
      obtain ⟨rfl, rfl, rfl, rfl, rfl, hl4, hl5⟩ := hlk
      have HHM : Aside0 (hh.f4.length ≤ 5864062014804) := ⟨HG2.out hh (by rw [← hhe, List.getD_eq_getElem?_getD, List.getElem?_eq_getElem hzn]; exact List.getElem_mem hzn)⟩
      have HBZ : Aside0 (bk.getD z.toNat z57 = Ap.inv hh) := ⟨by rw [← HBK.out, ← hhe]; simp [List.getD_eq_getElem?_getD, hzn]⟩
      have HL4 := Aside0.mk hl4
      have HL5 := Aside0.mk hl5
      have y0 : wr.cell? ⟨gb, z.toNat * 5, none⟩ = some (.int .i64 hh.f0) := hcce 0 _ rfl
      have y1 : wr.cell? ⟨gb, z.toNat * 5 + 1, none⟩ = some (.int .i64 hh.f1) := hcce 1 _ rfl
      have y2 : wr.cell? ⟨gb, z.toNat * 5 + 2, none⟩ = some (.int .i64 hh.f2) := hcce 2 _ rfl
      have y3 : wr.cell? ⟨gb, z.toNat * 5 + 3, none⟩ = some (.int .i64 hh.f3) := hcce 3 _ rfl
      have y4 : wr.cell? ⟨gb, z.toNat * 5 + 4, none⟩ = some (.slice xA hh.f4.length xc) := hcce 4 _ rfl
      have HGB := Aside0.mk hgb
      have p1 := eq_true hz1
      have p2 := eq_true hz3
      have hw : wrap64 (z + 1) = z + 1 := by unfold wrap64; omega
      have HW := Aside0.mk hw
      clear hcel hMe hcce hfre hxz hhe hx hl4 hl5 hgb hgl hcell cells hw hz3
      go_upto_region 6 with (first | ((with_reducible refine gate_dst (N := 9) rfl ?_); refine box_event ?hg (N := 9) ?hd (cs := #[.int .i64 0, .int .i64 0, .int .i64 0, .int .i64 0, .slice none 0 0]) (t := 57) ?hr ?_; (case hd => rfl); (case hg => rfl); (case hr => first | (go_simp; done) | (go_simp; rfl)); intro gm hg w5 hbox hb; have GM := Aside0.mk (by rw [hg]; exact HB.out.size : w.heap.size ≤ gm); have n1_ := Aside0.mk (below_step HB.out hb); have n2_ := Aside0.mk (Kd.R_below (Kd.R_mono (Kd.R_elderB HX.out gm (Nat.le_of_eq hg.symm)) (fun k hk => hk.2) : Kd.R Ap.kfl 57 wr w.heap.size (fun k => k ≠ gm) _ xs) hb); have n3_ := Aside0.mk (fun j (h1 : j < z.toNat) (h2 : j < l0.length) => (HM.out j h1 h2).below hb); replace y0 := (hb.cell (World.block_lt_of_cell? _ _ y0)).trans y0; replace y1 := (hb.cell (World.block_lt_of_cell? _ _ y1)).trans y1; replace y2 := (hb.cell (World.block_lt_of_cell? _ _ y2)).trans y2; replace y3 := (hb.cell (World.block_lt_of_cell? _ _ y3)).trans y3; replace y4 := (hb.cell (World.block_lt_of_cell? _ _ y4)).trans y4; clear HB HX HM; have HB := n1_; have HX := n2_; have HM := n3_; clear n1_ n2_ n3_; have BM := Aside0.mk hbox; clear hbox hb hg; have o0 := (blk_cell BM.out 0).trans (show _ = some (Value.int .i64 0) from rfl); have k0 := blk_frozen BM.out 0; have o1 := (blk_cell BM.out 1).trans (show _ = some (Value.int .i64 0) from rfl); have k1 := blk_frozen BM.out 1; have o2 := (blk_cell BM.out 2).trans (show _ = some (Value.int .i64 0) from rfl); have k2 := blk_frozen BM.out 2; have o3 := (blk_cell BM.out 3).trans (show _ = some (Value.int .i64 0) from rfl); have k3 := blk_frozen BM.out 3; have o4 := (blk_cell BM.out 4).trans (show _ = some (Value.slice none 0 0) from rfl); have k4 := blk_frozen BM.out 4) | ((with_reducible refine gate_store (t := 57) (p := 9) rfl ?_); refine store_event (t := 57) (p := 9) (v := ?vo_s9) (w1 := (((((w5.setCell ⟨gm, 0, none⟩ (.int .i64 hh.f0)).setCell ⟨gm, 1, none⟩ (.int .i64 hh.f1)).setCell ⟨gm, 2, none⟩ (.int .i64 hh.f2)).setCell ⟨gm, 3, none⟩ (.int .i64 hh.f3)).setCell ⟨gm, 4, none⟩ (.slice xA hh.f4.length xc))) ?hg ?ho ?hn ?hr ?_; (case ho => rfl); (case hg => rfl); (case hn => rfl); (case hr => first | (go_simp; done) | (go_simp; rfl)); intro w6 hw; have n0_ : Aside0 (w6.heap[gm]? = some (.cells #[.int .i64 hh.f0, .int .i64 hh.f1, .int .i64 hh.f2, .int .i64 hh.f3, .slice xA hh.f4.length xc] 57 (0, 0))) := ⟨by rw [hw]; exact blk_put (blk_put (blk_put (blk_put (blk_put BM.out 0 _ rfl) 1 _ rfl) 2 _ rfl) 3 _ rfl) 4 _ rfl⟩; have n1_ : Aside0 (Below w.heap.size w w6) := ⟨by rw [hw]; exact ((((HB.out.setCell GM.out _).setCell GM.out _).setCell GM.out _).setCell GM.out _).setCell GM.out _⟩; have n2_ : Aside0 (Kd.R Ap.kfl 57 w6 w.heap.size (fun _ => True) (.slice (some ⟨gb, 0, none⟩) l0.length cb) xs) := ⟨by rw [hw]; exact Kd.R_mono (Kd.R_far (Kd.R_far (Kd.R_far (Kd.R_far (Kd.R_far HX.out (fun k hk => hk) _) (fun k hk => hk) _) (fun k hk => hk) _) (fun k hk => hk) _) (fun k hk => hk) _) (fun _ _ => trivial)⟩; have n3_ : Aside0 (∀ j, j < z.toNat → j < l0.length → Ap.Lm w6 w.heap.size (xs.getD j Ap.zf) (bk.getD j z57)) := ⟨fun j h1 h2 => by rw [hw]; exact (HM.out j h1 h2).fill BM.out (by decide) 0 1 2 3 4 _ _ _ _ _⟩; clear HB HX HM BM hw y0 y1 y2 y3 y4 o0 o1 o2 o3 o4 k0 k1 k2 k3 k4; have BM := n0_; have HB := n1_; have HX := n2_; have HM := n3_; clear n0_ n1_ n2_ n3_))
      have y0 := (blk_cell BM.out 0).trans (show _ = some (Value.int .i64 hh.f0) from rfl)
      have y1 := (blk_cell BM.out 1).trans (show _ = some (Value.int .i64 hh.f1) from rfl)
      have y2 := (blk_cell BM.out 2).trans (show _ = some (Value.int .i64 hh.f2) from rfl)
      have y3 := (blk_cell BM.out 3).trans (show _ = some (Value.int .i64 hh.f3) from rfl)
      have y4 := (blk_cell BM.out 4).trans (show _ = some (Value.slice xA hh.f4.length xc) from rfl)
      have HIV : Aside0 (hunks_Invert.f hh.f0 hh.f1 hh.f2 hh.f3 hh.f4 = some ((Ap.inv hh).f0, (Ap.inv hh).f1, (Ap.inv hh).f2, (Ap.inv hh).f3, (Ap.inv hh).f4)) := ⟨if_pos HHM.out⟩
      obtain ⟨iv, hiv⟩ : ∃ iv, Ap.inv hh = iv := ⟨_, rfl⟩
      rw [hiv] at HIV HBZ
      go_wp2_with (first | (go_at_call 38; refine (hunks_Invert.calls hh.f0 hh.f1 hh.f2 hh.f3 xA xc hh.f4 iv.f0 iv.f1 iv.f2 iv.f3 iv.f4 _ (Kd.C_below HL5.out HB.out) HL4.out HIV.out).mono ?_; rintro e w7 ⟨v7, rfl, hs7, hb⟩; obtain ⟨A7, c7, rfl⟩ := Kd.R_slice hs7; have n0_ := Aside0.mk (Kd.R_lower hs7 HB.out.size); have n1_ := Aside0.mk (below_step HB.out hb); have n2_ := Aside0.mk (Kd.R_below HX.out hb); have n3_ := Aside0.mk (fun j (h1 : j < z.toNat) (h2 : j < l0.length) => (HM.out j h1 h2).below hb); clear HB HX HM BM hs7 hb y0 y1 y2 y3 y4; have HI := n0_; have HB := n1_; have HX := n2_; have HM := n3_; clear n0_ n1_ n2_ n3_; obtain ⟨ce, hcel, hMe, hcce, hfre⟩ := Kd.R_elem HX.out Ap.zf z hz1 (of_decide_eq_true hzl); obtain rfl := Ap.kfl_openM hMe; have y0 : w7.cell? ⟨gb, z.toNat * 5, none⟩ = some _ := hcce 0 _ rfl; have y1 : w7.cell? ⟨gb, z.toNat * 5 + 1, none⟩ = some _ := hcce 1 _ rfl; have y2 : w7.cell? ⟨gb, z.toNat * 5 + 2, none⟩ = some _ := hcce 2 _ rfl; have y3 : w7.cell? ⟨gb, z.toNat * 5 + 3, none⟩ = some _ := hcce 3 _ rfl; have y4 : w7.cell? ⟨gb, z.toNat * 5 + 4, none⟩ = some _ := hcce 4 _ rfl; have k0 : w7.frozen? ⟨gb, z.toNat * 5, none⟩ = false := hfre 0; have k1 : w7.frozen? ⟨gb, z.toNat * 5 + 1, none⟩ = false := hfre 1; have k2 : w7.frozen? ⟨gb, z.toNat * 5 + 2, none⟩ = false := hfre 2; have k3 : w7.frozen? ⟨gb, z.toNat * 5 + 3, none⟩ = false := hfre 3; have k4 : w7.frozen? ⟨gb, z.toNat * 5 + 4, none⟩ = false := hfre 4; have HSG := Aside0.mk (Ap.seg5 HX.out z hz1 (of_decide_eq_true hzl) hcel hcce iv.f0 iv.f1 iv.f2 iv.f3 A7 iv.f4.length c7); clear hcel hMe hcce hfre) | ((with_reducible refine gate_store (t := 57) (p := 31) rfl ?_); refine store_event (t := 57) (p := 31) (v := ?vo_s31) (w1 := (((((w7.setCell ⟨gb, z.toNat * 5, none⟩ (.int .i64 iv.f0)).setCell ⟨gb, z.toNat * 5 + 1, none⟩ (.int .i64 iv.f1)).setCell ⟨gb, z.toNat * 5 + 2, none⟩ (.int .i64 iv.f2)).setCell ⟨gb, z.toNat * 5 + 3, none⟩ (.int .i64 iv.f3)).setCell ⟨gb, z.toNat * 5 + 4, none⟩ (.slice A7 iv.f4.length c7))) ?hg ?ho ?hn ?hr ?_; (case ho => rfl); (case hg => rfl); (case hn => rfl); (case hr => first | (go_simp; done) | (go_simp; rfl)); intro w8 hw; obtain ⟨cells9, hc9⟩ := Kd.R_typed HX.out gb (by simp [Value.ownBlock]); have n1_ : Aside0 (Below w.heap.size w w8) := ⟨by rw [hw]; exact ((((HB.out.setCell HGB.out _).setCell HGB.out _).setCell HGB.out _).setCell HGB.out _).setCell HGB.out _⟩; have n2_ : Aside0 (Kd.R Ap.kfl 57 w8 w.heap.size (fun _ => True) (.slice (some ⟨gb, 0, none⟩) l0.length cb) (xs.set z.toNat (iv.f0, iv.f1, iv.f2, iv.f3, (A7, iv.f4.length, c7)))) := ⟨by rw [hw]; exact HSG.out⟩; have n3_ : Aside0 (∀ j, j < z.toNat → j < l0.length → Ap.Lm w8 w.heap.size (xs.getD j Ap.zf) (bk.getD j z57)) := ⟨fun j h1 h2 => by rw [hw]; exact (HM.out j h1 h2).fill hc9 (by decide) _ _ _ _ _ _ _ _ _ _⟩; have n4_ : Aside0 (Ap.Lm w8 w.heap.size (iv.f0, iv.f1, iv.f2, iv.f3, (A7, iv.f4.length, c7)) iv) := ⟨by rw [hw]; exact (show Ap.Lm w7 w.heap.size (iv.f0, iv.f1, iv.f2, iv.f3, (A7, iv.f4.length, c7)) iv from ⟨rfl, rfl, rfl, rfl, HI.out⟩).fill hc9 (by decide) _ _ _ _ _ _ _ _ _ _⟩; clear HB HX HM HI HSG hc9 hw y0 y1 y2 y3 y4 k0 k1 k2 k3 k4; have HB := n1_; have HX := n2_; have HM := n3_; have HI := n4_; clear n1_ n2_ n3_ n4_))
      go_roundg q1
      case measure => omega
      case rel => exact ⟨z + 1, _, by go_num, by omega, by have := HZ.out; have := HG1.out; omega, ⟨by have := HZ.out; omega⟩, ⟨by rw [List.length_set]; exact HXL.out.1, fun j h1 h2 => by rw [List.getD_eq_getElem?_getD, List.getElem?_set_ne (by omega), ← List.getD_eq_getElem?_getD]; exact HXL.out.2 j (by omega) h2⟩, ⟨fun j h1 h2 => by
        by_cases hj : j = z.toNat
        · subst hj
          rw [HBZ.out, List.getD_eq_getElem?_getD, List.getElem?_set_self (by have := HXL.out.1; omega)]
          exact HI.out
        · rw [List.getD_eq_getElem?_getD, List.getElem?_set_ne (by omega), ← List.getD_eq_getElem?_getD]
          exact HM.out j (by omega) h2⟩, HX, HB⟩
end Go.Proofs.Ytnbeppnpfdempaa.X
