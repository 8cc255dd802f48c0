-- printed by xprint.py, a program of this session's own over the kit's print
import Derived.Test.YtdcldoembdifpaaZRXx0
import Derived.Test.YtdcldoembdifpaaZRXx8
import Derived.Test.YtdcldoembdifpaaZRXx19
import Derived.Test.YtdcldoembdifpaaZRXx20
import Derived.Test.YtdcldoembdifpaaZRXx36
import Derived.Test.YtdcldoembdifpaaZRXx41
import Derived.Test.YtdcldoembdifpaaZRXx42
import Derived.Test.YtdcldoembdifpaaZRXx46
import Derived.Deep.RegionHeld3
import Derived.Laws.CopyOwn
import Derived.Deep.OwnRows
namespace Go.Proofs.Ytdcldoembdifpaa.X
open Go.RowKit Go.Proofs.YtdcldoembdifpaaW.PrintWords Go.Proofs.YtdcldoembdifpaaW.PrintLast Go.Proofs.YtdcldoembdifpaaW.PrintMore
attribute [local go_sem] max2_int min2_int max_two min_two max_three min_three max_four min_four   -- for this text's walks alone
open Go.Proofs.YtdcldoembdifpaaW.HandWords
set_option linter.unusedVariables false
set_option linter.unusedSimpArgs false
/-! ### histogram_Diff: by hand -/
/-- n members from place p on: v, v + 1, .. -/
def hp_lay : Nat → Nat → Int → List Int → List Int
  | 0, _, _, T => T
  | q + 1, p, v, T => hp_lay q (p + 1) (v + 1) (T.set p v)
theorem hp_lay_len : ∀ q p v T, (hp_lay q p v T).length = T.length
  | 0, _, _, _ => rfl
  | q + 1, p, v, T => by rw [hp_lay, hp_lay_len q, List.length_set]
set_option maxHeartbeats 2000000 in
set_option maxRecDepth 100000 in
theorem histogram_hold.calls (gw kb cap base : Nat) (ok : Nat → Prop) (X Y : Value) (a c n : Int) (T : List Int) (m : Nat) (hTm : T.length = m) (w0 w : World) (hB : Below w0.heap.size w0 w) (hkb : w0.heap.size ≤ kb) (hw : w.heap[gw]? = some (.cells #[X, Y, .slice (some ⟨kb, 0, none⟩) m cap] 75 (0, 0))) (hT : Kd.R (Kd.int .i64) 3 w base ok (.slice (some ⟨kb, 0, none⟩) m cap) T)
    (h0 : 0 ≤ a) (h1 : 0 ≤ n) (h2 : a + n ≤ (m : Int)) (h3 : m ≤ 1000000) (h4 : 0 ≤ c) (h5 : c + n ≤ 1000000) :
    Calls Try.prog 57 #[.pointer (some ⟨gw, 0, none⟩), .int .i64 a, .int .i64 c, .int .i64 n] w fun e w' => e = .returned (.tuple #[]) ∧ w'.heap[gw]? = some (.cells #[X, Y, .slice (some ⟨kb, 0, none⟩) m cap] 75 (0, 0)) ∧ Kd.R (Kd.int .i64) 3 w' base ok (.slice (some ⟨kb, 0, none⟩) m cap) (hp_lay n.toNat a.toNat c T) ∧ Kept w w' (fun k => k = kb) ∧ Below w0.heap.size w0 w' := by
  have hne : gw ≠ kb := by
    have h := Kd.R_ne hT hw (by decide)
    simpa [Value.ownBlock] using h
  have HNE := Aside0.mk hne
  have HW := Aside0.mk hw
  have HT := Aside0.mk hT
  have HB := Aside0.mk hB
  have HKB := Aside0.mk hkb
  have hun := Try.underlying75
  clear hne hw hT hB hkb
  have HM := Aside0.mk hTm.symm
  clear hTm
  go_enter Try.func57, Try.ntmps57
  go_wp2
  go_loopg [10] n.toNat (fun q v10 w' => ∃ (i : Int) (U : List Int), v10 = .int .i64 i ∧ 0 ≤ i ∧ i ≤ 1000000 ∧ Aside0 (i + (q : Int) = n) ∧ Aside0 (U.length = m) ∧ Aside0 (hp_lay q (a + i).toNat (c + i) U = hp_lay n.toNat a.toNat c T) ∧ Aside0 (w'.heap[gw]? = some (.cells #[X, Y, .slice (some ⟨kb, 0, none⟩) m cap] 75 (0, 0))) ∧ Aside0 (Kd.R (Kd.int .i64) 3 w' base ok (.slice (some ⟨kb, 0, none⟩) m cap) U) ∧ Aside0 (Kept w w' (fun k => k = kb)) ∧ Aside0 (Below w0.heap.size w0 w'))
  case atStart => exact ⟨0, T, rfl, by omega, by omega, ⟨by omega⟩, ⟨HM.out.symm⟩, ⟨by rw [show (a + 0).toNat = a.toNat from by omega, Int.add_zero]⟩, HW, HT, ⟨Kept.refl _ _⟩, HB⟩
  case round =>
    clear HW HT HB
    obtain ⟨i, U, rfl, hi0, hi1, HZ, HL, HA, HW, HT, HK, HB⟩ := hrel
    cases gk with
    | zero =>
      have hd : decide (i < n) = false := decide_eq_false (by have := HZ.out; omega)
      go_wp2
      go_end0
      refine ⟨rfl, HW.out, ?_, HK.out, HB.out⟩
      have h := HA.out
      rw [hp_lay] at h
      rw [← h]; exact HT.out
    | succ q1 =>
      have hil : i < n := by have := HZ.out; omega
      have hd : decide (i < n) = true := decide_eq_true hil
      have e2 : wr.cell? ⟨gw, 2, none⟩ = some (.slice (some ⟨kb, 0, none⟩) m cap) := (blk_cell HW.out 2).trans rfl
      obtain ⟨pl, hpl⟩ : ∃ pl, a + i = pl := ⟨_, rfl⟩
      obtain ⟨vl, hvl⟩ : ∃ vl, c + i = vl := ⟨_, rfl⟩
      have hp0 : 0 ≤ pl := by omega
      have hp1 : pl < (m : Int) := by omega
      have hp2 : pl.toNat < U.length := by have := HL.out; omega
      have p1 := eq_true hp0
      have p2 := eq_true hp1
      obtain ⟨f3, f4⟩ := R_cell_nat (by have h := HT.out; have e := HL.out; exact h) pl.toNat hp2
      have HPL := Aside0.mk hpl
      have HVL := Aside0.mk hvl
      have hpw : wrap64 (a + i) = pl := by rw [← hpl]; unfold wrap64; omega
      have hvw : wrap64 (c + i) = vl := by rw [← hvl]; unfold wrap64; omega
      have hpw2 := (i64_w _).trans hpw
      have hvw2 := (i64_w _).trans hvw
      go_wp2
      clear hpw hvw hpw2 hvw2
      go_roundg q1
      case measure => omega
      case rel =>
        refine ⟨i + 1, U.set pl.toNat vl, by go_num, by omega, by omega, ⟨by have := HZ.out; omega⟩, ⟨by rw [List.length_set]; exact HL.out⟩, ⟨?_⟩, ⟨blk_far HW.out HNE.out _⟩, ⟨R_store_nat HT.out _ _⟩, ⟨Kept.setCell HK.out (.inl rfl) _⟩, ⟨below_set HB.out HKB.out⟩⟩
        have h := HA.out
        rw [hp_lay] at h
        rw [← HPL.out, ← HVL.out, show (a + (i + 1)).toNat = (a + i).toNat + 1 from by omega, show c + (i + 1) = c + i + 1 from by omega]
        exact h
/-- how many members are the same from the front on, when n of them are known to be -/
def hp_front (x y : List Int) (a b c d : Nat) : Nat → Nat → Nat
  | 0, n => n
  | q + 1, n => if a + n < b ∧ c + n < d ∧ x.getD (a + n) 0 = y.getD (c + n) 0 then hp_front x y a b c d q (n + 1) else n
/-- .. and from the back: where both end, and what is kept -/
def hp_back (x y : List Int) (a c : Nat) : Nat → Nat → Nat → List Int → Nat × Nat × List Int
  | 0, b, d, T => (b, d, T)
  | q + 1, b, d, T => if a < b ∧ c < d ∧ x.getD (b - 1) 0 = y.getD (d - 1) 0 then hp_back x y a c q (b - 1) (d - 1) (T.set (b - 1) ((d - 1 : Nat) : Int)) else (b, d, T)
def hp_cut (x : List Int) (a b : Nat) : List Int := (x.take b).drop a
def hp_rest (x y : List Int) (k : Nat) (rc : Nat → Nat → Nat → Nat → List Int → Option (List Int)) (a c : Nat) (s : Nat × Nat × List Int) : Option (List Int) :=
  (histogram_Best.f (hp_cut x a s.1) (hp_cut y c s.2.1)).bind fun r =>
    if r.2.2.2.2 = false then some s.2.2
    else if r.2.2.2.1 > 64 then
      (minimal_Diff.f k (hp_cut x a s.1) (hp_cut y c s.2.1)).bind fun l => (edits_Keep.f k l.1 ((s.1 : Int) - a) ((s.2.1 : Int) - c)).bind fun kk => if kk.1.length ≤ s.1 - a then some (ls_lay (c : Int) a kk.1 s.2.2) else none
    else if 0 ≤ r.1 ∧ 0 ≤ r.2.1 ∧ 0 ≤ r.2.2.1 ∧ (a : Int) + r.1 + r.2.2.1 ≤ s.1 ∧ (c : Int) + r.2.1 + r.2.2.1 ≤ s.2.1 then
      (rc a (a + r.1.toNat) c (c + r.2.1.toNat) (hp_lay r.2.2.1.toNat (a + r.1.toNat) ((c : Int) + r.2.1) s.2.2)).bind fun T4 =>
        rc (a + r.1.toNat + r.2.2.1.toNat) s.1 (c + r.2.1.toNat + r.2.2.1.toNat) s.2.1 T4
    else none
def hp_piece (x y : List Int) : Nat → Nat → Nat → Nat → Nat → List Int → Option (List Int)
  | 0, _, _, _, _, _ => none
  | k + 1, a0, b0, c0, d0, T0 =>
    let n := hp_front x y a0 b0 c0 d0 (b0 - a0) 0
    hp_rest x y k (hp_piece x y k) (a0 + n) (c0 + n) (hp_back x y (a0 + n) (c0 + n) (b0 - (a0 + n)) b0 d0 (hp_lay n a0 (c0 : Int) T0))
theorem hp_front_le (x y : List Int) (a b c d : Nat) : ∀ q n, a + n ≤ b → c + n ≤ d → a + hp_front x y a b c d q n ≤ b ∧ c + hp_front x y a b c d q n ≤ d ∧ n ≤ hp_front x y a b c d q n
  | 0, n, h1, h2 => ⟨h1, h2, Nat.le_refl _⟩
  | q + 1, n, h1, h2 => by
    rw [hp_front]
    by_cases h : a + n < b ∧ c + n < d ∧ x.getD (a + n) 0 = y.getD (c + n) 0
    · rw [if_pos h]
      have := hp_front_le x y a b c d q (n + 1) (by omega) (by omega)
      omega
    · rw [if_neg h]; exact ⟨h1, h2, Nat.le_refl _⟩
set_option maxHeartbeats 4000000 in
set_option maxRecDepth 100000 in
theorem histogram_piece.calls (gw kb cap base A : Nat) (ok : Nat → Prop) (A0 : Option Addr) (c0 : Nat) (l0 : List Int) (A1 : Option Addr) (c1 : Nat) (l1 : List Int) (w0 : World) (hl0 : l0.length ≤ 100000) (hl1 : l1.length ≤ 100000) (hc0 : l0.length ≤ c0) (hc1 : l1.length ≤ c1) (hkb : w0.heap.size ≤ kb) :
    ∀ (k : Nat) (a b c d : Nat) (T T' : List Int) (w : World) (hB : Below w0.heap.size w0 w) (hw : w.heap[gw]? = some (.cells #[.slice A0 l0.length c0, .slice A1 l1.length c1, .slice (some ⟨kb, 0, none⟩) l0.length cap] 75 (0, 0))) (hT : Kd.R (Kd.int .i64) 3 w base ok (.slice (some ⟨kb, 0, none⟩) l0.length cap) T) (hTl : T.length = l0.length)
      (hr0 : ∀ W_, Kept w W_ (fun k => k = kb) → Kd.C (Kd.int .i64) W_ A0 l0.length l0) (hr1 : ∀ W_, Kept w W_ (fun k => k = kb) → Kd.C (Kd.int .i64) W_ A1 l1.length l1)
      (h1 : a ≤ b) (h2 : b ≤ l0.length) (h3 : c ≤ d) (h4 : d ≤ l1.length) (h : hp_piece l0 l1 k a b c d T = some T'),
    Calls Try.prog 50 #[.pointer (some ⟨gw, 0, none⟩), .int .i64 (a : Int), .int .i64 (b : Int), .int .i64 (c : Int), .int .i64 (d : Int)] w fun e w' => e = .returned (.tuple #[]) ∧ w'.heap[gw]? = some (.cells #[.slice A0 l0.length c0, .slice A1 l1.length c1, .slice (some ⟨kb, 0, none⟩) l0.length cap] 75 (0, 0)) ∧ Kd.R (Kd.int .i64) 3 w' base ok (.slice (some ⟨kb, 0, none⟩) l0.length cap) T' ∧ T'.length = l0.length ∧ Kept w w' (fun k => k = kb) ∧ Below w0.heap.size w0 w' := by
  intro k
  induction k with
  | zero => intro a b c d T T' w _ _ _ _ _ _ _ _ _ _ h; cases h
  | succ k ih =>
    intro a b c d T T' w hB hw hT hTl hr0 hr1 h1 h2 h3 h4 h
    have HNE : Aside0 (gw ≠ kb) := ⟨by
      have h := Kd.R_ne hT hw (by decide)
      simpa [Value.ownBlock] using h⟩
    have IH : Aside0 (∀ (ya yb yc yd : Int) (a b c d : Nat) (T T' : List Int) (w : World), ya = (a : Int) → yb = (b : Int) → yc = (c : Int) → yd = (d : Int) → Below w0.heap.size w0 w → w.heap[gw]? = some (.cells #[.slice A0 l0.length c0, .slice A1 l1.length c1, .slice (some ⟨kb, 0, none⟩) l0.length cap] 75 (0, 0)) → Kd.R (Kd.int .i64) 3 w base ok (.slice (some ⟨kb, 0, none⟩) l0.length cap) T → T.length = l0.length → (∀ W_, Kept w W_ (fun k => k = kb) → Kd.C (Kd.int .i64) W_ A0 l0.length l0) → (∀ W_, Kept w W_ (fun k => k = kb) → Kd.C (Kd.int .i64) W_ A1 l1.length l1) → a ≤ b → b ≤ l0.length → c ≤ d → d ≤ l1.length → hp_piece l0 l1 k a b c d T = some T' →
      Calls Try.prog 50 #[.pointer (some ⟨gw, 0, none⟩), .int .i64 ya, .int .i64 yb, .int .i64 yc, .int .i64 yd] w fun e w' => e = .returned (.tuple #[]) ∧ w'.heap[gw]? = some (.cells #[.slice A0 l0.length c0, .slice A1 l1.length c1, .slice (some ⟨kb, 0, none⟩) l0.length cap] 75 (0, 0)) ∧ Kd.R (Kd.int .i64) 3 w' base ok (.slice (some ⟨kb, 0, none⟩) l0.length cap) T' ∧ T'.length = l0.length ∧ Kept w w' (fun k => k = kb) ∧ Below w0.heap.size w0 w') := ⟨by
      intro ya yb yc yd a b c d T T' w e1 e2 e3 e4
      subst e1 e2 e3 e4
      exact ih a b c d T T' w⟩
    have HW := Aside0.mk hw
    have HT := Aside0.mk hT
    have HTL := Aside0.mk hTl
    have HB := Aside0.mk hB
    have HKB := Aside0.mk hkb
    have HR0 := Aside0.mk hr0
    have HR1 := Aside0.mk hr1
    have HC0 := Aside0.mk hc0
    have HC1 := Aside0.mk hc1
    have HK := Aside0.mk (Kept.refl w (fun k => k = kb))
    have H := Aside0.mk h
    have hun := Try.underlying75
    clear ih hw hT hTl hB hkb hr0 hr1 hc0 hc1 h
    obtain ⟨za, hza⟩ : ∃ za : Int, za = (a : Int) := ⟨_, rfl⟩
    obtain ⟨zb, hzb⟩ : ∃ zb : Int, zb = (b : Int) := ⟨_, rfl⟩
    obtain ⟨zc, hzc⟩ : ∃ zc : Int, zc = (c : Int) := ⟨_, rfl⟩
    obtain ⟨zd, hzd⟩ : ∃ zd : Int, zd = (d : Int) := ⟨_, rfl⟩
    rw [← hza, ← hzb, ← hzc, ← hzd]
    have HZA := Aside0.mk hza
    have HZB := Aside0.mk hzb
    have HZC := Aside0.mk hzc
    have HZD := Aside0.mk hzd
    have b1 : 0 ≤ za := by omega
    have b2 : za ≤ 100000 := by omega
    have b3 : 0 ≤ zc := by omega
    have b4 : zc ≤ 100000 := by omega
    have b5 : 0 ≤ zb := by omega
    have b6 : zb ≤ 100000 := by omega
    have b7 : 0 ≤ zd := by omega
    have b8 : zd ≤ 100000 := by omega
    clear hza hzb hzc hzd
    obtain ⟨N, hN⟩ : ∃ N, hp_front l0 l1 a b c d (b - a) 0 = N := ⟨_, rfl⟩
    have HN := Aside0.mk hN
    have HH : Aside0 (hp_rest l0 l1 k (hp_piece l0 l1 k) (a + N) (c + N) (hp_back l0 l1 (a + N) (c + N) (b - (a + N)) b d (hp_lay N a (c : Int) T)) = some T') := ⟨by
      have h := H.out
      rw [hp_piece] at h
      simp only [hN] at h
      exact h⟩
    clear H
    have HNL := Aside0.mk (hN ▸ hp_front_le l0 l1 a b c d (b - a) 0 (by omega) (by omega))
    clear hN
    go_enter Try.func50, Try.ntmps50
    go_wp2
    go_loopg [10] (b - a) (fun q v10 w' => ∃ n : Int, v10 = .int .i64 n ∧ 0 ≤ n ∧ n ≤ 100000 ∧ Aside0 (a + n.toNat + q = b) ∧ Aside0 (c + n.toNat ≤ d) ∧ Aside0 (hp_front l0 l1 a b c d q n.toNat = N) ∧ Aside0 (w'.heap[gw]? = some (.cells #[.slice A0 l0.length c0, .slice A1 l1.length c1, .slice (some ⟨kb, 0, none⟩) l0.length cap] 75 (0, 0))) ∧ Aside0 (Kd.R (Kd.int .i64) 3 w' base ok (.slice (some ⟨kb, 0, none⟩) l0.length cap) T) ∧ Aside0 (Kept w w' (fun k => k = kb)) ∧ Aside0 (Below w0.heap.size w0 w'))
    case atStart => exact ⟨0, rfl, by omega, by omega, ⟨by show a + 0 + (b - a) = b; omega⟩, ⟨by show c + 0 ≤ d; omega⟩, HN, HW, HT, HK, HB⟩
    case round =>
      clear HW HT HK HB HN
      obtain ⟨n, rfl, hn0, hn1, HQ, HCN, HN, HW, HT, HK, HB⟩ := hrel
      have e0 : wr.cell? ⟨gw, 0, none⟩ = some (.slice A0 l0.length c0) := (blk_cell HW.out 0).trans rfl
      have e1 : wr.cell? ⟨gw, 1, none⟩ = some (.slice A1 l1.length c1) := (blk_cell HW.out 1).trans rfl
      obtain ⟨i2, hi2e⟩ : ∃ i2, za + n = i2 := ⟨_, rfl⟩
      obtain ⟨j2, hj2e⟩ : ∃ j2, zc + n = j2 := ⟨_, rfl⟩
      have hiw : wrap64 (za + n) = i2 := by rw [← hi2e]; unfold wrap64; omega
      have hjw : wrap64 (zc + n) = j2 := by rw [← hj2e]; unfold wrap64; omega
      have hiw2 := (i64_w _).trans hiw
      have hjw2 := (i64_w _).trans hjw
      have HI2 := Aside0.mk hi2e
      have HJ2 := Aside0.mk hj2e
      go_upto_region 1 with (fail)
      go_cut [53] (fun v53 wc => ∃ (bb : Bool), v53 = .bool bb ∧ Aside0 (hb_iff bb (a + n.toNat < b ∧ c + n.toNat < d ∧ l0.getD (a + n.toNat) 0 = l1.getD (c + n.toNat) 0)) ∧ Aside0 (wc.heap[gw]? = some (.cells #[.slice A0 l0.length c0, .slice A1 l1.length c1, .slice (some ⟨kb, 0, none⟩) l0.length cap] 75 (0, 0))) ∧ Aside0 (Kd.R (Kd.int .i64) 3 wc base ok (.slice (some ⟨kb, 0, none⟩) l0.length cap) T) ∧ Aside0 (Kept w wc (fun k => k = kb)) ∧ Aside0 (Below w0.heap.size w0 wc))
      case first =>
        clear HN
        have i20 : 0 ≤ i2 := by omega
        have j20 : 0 ≤ j2 := by omega
        have p5 := eq_true i20
        have p6 := eq_true j20
        by_cases ci : i2 < zb
        · have cib : decide (i2 < zb) = true := decide_eq_true ci
          by_cases cj : j2 < zd
          · have cjb : decide (j2 < zd) = true := decide_eq_true cj
            have ci2 : i2 < (l0.length : Int) := by have := HZB.out; omega
            have cj2 : j2 < (l1.length : Int) := by have := HZD.out; omega
            have p7 := eq_true ci2
            have p8 := eq_true cj2
            obtain ⟨ad3, ea3, hx3⟩ := Kd.at_int (HR1.out wr HK.out) j2 j20 cj2
            cases ea3
            obtain ⟨ad2, ea2, hx2⟩ := Kd.at_int (HR0.out wr HK.out) i2 i20 ci2
            cases ea2
            obtain ⟨bb, hbb⟩ : ∃ b : Bool, ((rd l0 i2) == (rd l1 j2)) = b := ⟨_, rfl⟩
            have HBB : Aside0 (hb_iff bb (a + n.toNat < b ∧ c + n.toNat < d ∧ l0.getD (a + n.toNat) 0 = l1.getD (c + n.toNat) 0)) := ⟨by
              unfold hb_iff
              rw [← hbb, beq_iff_eq]
              unfold rd
              have := HZA.out; have := HZB.out; have := HZC.out; have := HZD.out
              rw [show i2.toNat = a + n.toNat from by omega, show j2.toNat = c + n.toNat from by omega]
              constructor
              · intro h; exact ⟨by omega, by omega, h⟩
              · rintro ⟨_, _, h⟩; exact h⟩
            clear ci cj ci2 cj2
            go_wp2
            repeat (go_quiet (fail); try go_wp2)
            go_meet
            case rel => exact ⟨bb, (by first | rfl | (simp; done) | (simp [*]; done)), HBB, ⟨blk_drewN HW.out _⟩, ⟨Kd.R_drewN HT.out _⟩, ⟨Kept.drewN HK.out _⟩, ⟨pw_below_drewN HB.out _⟩⟩
          · have cjb : decide (j2 < zd) = false := decide_eq_false cj
            have HBB : Aside0 (hb_iff false (a + n.toNat < b ∧ c + n.toNat < d ∧ l0.getD (a + n.toNat) 0 = l1.getD (c + n.toNat) 0)) := ⟨by
              unfold hb_iff
              have := HZC.out; have := HZD.out
              constructor
              · intro h; cases h
              · rintro ⟨_, h, _⟩; exfalso; omega⟩
            clear ci cj
            go_wp2
            repeat (go_quiet (fail); try go_wp2)
            go_meet
            case rel => exact ⟨false, (by first | rfl | (simp; done) | (simp [*]; done)), HBB, ⟨blk_drewN HW.out _⟩, ⟨Kd.R_drewN HT.out _⟩, ⟨Kept.drewN HK.out _⟩, ⟨pw_below_drewN HB.out _⟩⟩
        · have cib : decide (i2 < zb) = false := decide_eq_false ci
          have HBB : Aside0 (hb_iff false (a + n.toNat < b ∧ c + n.toNat < d ∧ l0.getD (a + n.toNat) 0 = l1.getD (c + n.toNat) 0)) := ⟨by
            unfold hb_iff
            have := HZA.out; have := HZB.out
            constructor
            · intro h; cases h
            · rintro ⟨h, _⟩; exfalso; omega⟩
          clear ci
          go_wp2
          repeat (go_quiet (fail); try go_wp2)
          go_meet
          case rel => exact ⟨false, (by first | rfl | (simp; done) | (simp [*]; done)), HBB, ⟨blk_drewN HW.out _⟩, ⟨Kd.R_drewN HT.out _⟩, ⟨Kept.drewN HK.out _⟩, ⟨pw_below_drewN HB.out _⟩⟩
      case rest =>
        clear HW HT HK HB e0 e1
        obtain ⟨bb, rfl, HBB, HW, HT, HK, HB⟩ := hcut
        cases bb with
        | true =>
          have HC := Aside0.mk (HBB.out.1 rfl)
          clear hiw hjw hiw2 hjw2
          go_wp2
          go_roundg (b - a - n.toNat - 1)
          case measure => have := HC.out; have := HQ.out; omega
          case rel =>
            refine ⟨n + 1, by go_num, by omega, by have := HC.out; omega, ⟨by have := HC.out; have := HQ.out; omega⟩, ⟨by have := HC.out; omega⟩, ⟨?_⟩, HW, HT, HK, HB⟩
            have h := HN.out
            obtain ⟨q', hq1, hq2⟩ : ∃ q', gk = q' + 1 ∧ b - a - n.toNat - 1 = q' := ⟨gk - 1, by have := HC.out; have := HQ.out; omega, by have := HC.out; have := HQ.out; omega⟩
            rw [hq2]
            rw [hq1, hp_front, if_pos HC.out] at h
            rw [show (n + 1).toNat = n.toNat + 1 from by omega]
            exact h
        | false =>
          have hnN : n.toNat = N := by
            have h := HN.out
            have hne : ¬ (a + n.toNat < b ∧ c + n.toNat < d ∧ l0.getD (a + n.toNat) 0 = l1.getD (c + n.toNat) 0) := fun h => by have := HBB.out.2 h; cases this
            cases gk with
            | zero => exact h
            | succ q' => rw [hp_front, if_neg hne] at h; exact h
          have HNN := Aside0.mk hnN
          have n1 : za + n ≤ (l0.length : Int) := by have := HQ.out; have := HZA.out; omega
          have n2 : zc + n ≤ 1000000 := by have := HCN.out; have := HZC.out; omega
          have HN1 := Aside0.mk n1
          have HN2 := Aside0.mk n2
          clear hnN HN HBB n1 n2
          go_wp2_with (first | (go_at_call 57; (with_reducible refine (histogram_hold.calls gw kb cap base ok _ _ za zc n T l0.length HTL.out w0 _ HB.out HKB.out HW.out HT.out b1 hn0 HN1.out (by omega) b3 HN2.out).mono ?_); rintro e w9 ⟨rfl, hw9, ht9, hk9, hb9⟩; have n1_ := Aside0.mk (Kept.then_ HK.out hk9 (fun _ h => .inl h)); clear HW HT HK HB; have HW := Aside0.mk hw9; have HT := Aside0.mk ht9; have HK := n1_; have HB := Aside0.mk hb9; clear n1_ hw9 ht9 hk9 hb9))
          obtain ⟨T1, hT1⟩ : ∃ T1, hp_lay n.toNat za.toNat zc T = T1 := ⟨_, rfl⟩
          have HT1 : Aside0 (hp_lay N a (c : Int) T = T1) := ⟨by rw [← hT1, HNN.out, HZC.out, show za.toNat = a from by have := HZA.out; omega]⟩
          have HTL1 : Aside0 (T1.length = l0.length) := ⟨by rw [← hT1, hp_lay_len]; exact HTL.out⟩
          rw [hT1] at HT
          have HI2' : Aside0 (i2 = ((a + N : Nat) : Int)) := ⟨by have := HI2.out; have := HZA.out; have := HNN.out; omega⟩
          have HJ2' : Aside0 (j2 = ((c + N : Nat) : Int)) := ⟨by have := HJ2.out; have := HZC.out; have := HNN.out; omega⟩
          clear hT1 hiw hjw hiw2 hjw2 hi2e hj2e HI2 HJ2 HNN HN1 HN2 HCN HQ
          obtain ⟨SB, hSB⟩ : ∃ SB, hp_back l0 l1 (a + N) (c + N) (b - (a + N)) b d T1 = SB := ⟨_, rfl⟩
          have HSB := Aside0.mk hSB
          have HH2 : Aside0 (hp_rest l0 l1 k (hp_piece l0 l1 k) (a + N) (c + N) SB = some T') := ⟨by have h := HH.out; rw [HT1.out, hSB] at h; exact h⟩
          clear hSB HH
          have k1 : 0 ≤ i2 := by have := HI2'.out; omega
          have k2 : i2 ≤ 100000 := by have := HI2'.out; have := HNL.out; omega
          have k3 : 0 ≤ j2 := by have := HJ2'.out; omega
          have k4 : j2 ≤ 100000 := by have := HJ2'.out; have := HNL.out; omega
          go_loopg [2, 4] (b - (a + N)) (fun q v2 v4 w' => ∃ (yb yd : Int) (U : List Int), v2 = .int .i64 yb ∧ v4 = .int .i64 yd ∧ 0 ≤ yb ∧ yb ≤ 100000 ∧ 0 ≤ yd ∧ yd ≤ 100000 ∧ Aside0 (a + N + q = yb.toNat ∧ c + N ≤ yd.toNat ∧ yb.toNat ≤ b ∧ yd.toNat ≤ d) ∧ Aside0 (U.length = l0.length) ∧ Aside0 (hp_back l0 l1 (a + N) (c + N) q yb.toNat yd.toNat U = SB) ∧ Aside0 (w'.heap[gw]? = some (.cells #[.slice A0 l0.length c0, .slice A1 l1.length c1, .slice (some ⟨kb, 0, none⟩) l0.length cap] 75 (0, 0))) ∧ Aside0 (Kd.R (Kd.int .i64) 3 w' base ok (.slice (some ⟨kb, 0, none⟩) l0.length cap) U) ∧ Aside0 (Kept w w' (fun k => k = kb)) ∧ Aside0 (Below w0.heap.size w0 w'))
          case atStart => exact ⟨zb, zd, T1, rfl, rfl, b5, b6, b7, b8, ⟨by have := HNL.out; have := HZB.out; have := HZD.out; omega⟩, HTL1, ⟨by rw [show zb.toNat = b from by have := HZB.out; omega, show zd.toNat = d from by have := HZD.out; omega]; exact HSB.out⟩, HW, HT, HK, HB⟩
          case round =>
            clear HW HT HK HB HSB
            obtain ⟨yb, yd, U, rfl, rfl, y1, y2, y3, y4, HQ, HUL, HS, HW, HT, HK, HB⟩ := hrel
            have e0 : wr.cell? ⟨gw, 0, none⟩ = some (.slice A0 l0.length c0) := (blk_cell HW.out 0).trans rfl
            have e1 : wr.cell? ⟨gw, 1, none⟩ = some (.slice A1 l1.length c1) := (blk_cell HW.out 1).trans rfl
            obtain ⟨pb, hpb⟩ : ∃ pb, yb - 1 = pb := ⟨_, rfl⟩
            obtain ⟨pd, hpd⟩ : ∃ pd, yd - 1 = pd := ⟨_, rfl⟩
            have hbw : wrap64 (yb - 1) = pb := by rw [← hpb]; unfold wrap64; omega
            have hdw : wrap64 (yd - 1) = pd := by rw [← hpd]; unfold wrap64; omega
            have hbw2 := (i64_w _).trans hbw
            have hdw2 := (i64_w _).trans hdw
            have HPB := Aside0.mk hpb
            have HPD := Aside0.mk hpd
            go_upto_region 5 with (fail)
            go_cut [93] (fun v93 wc => ∃ (bb : Bool), v93 = .bool bb ∧ Aside0 (hb_iff bb (a + N < yb.toNat ∧ c + N < yd.toNat ∧ l0.getD (yb.toNat - 1) 0 = l1.getD (yd.toNat - 1) 0)) ∧ Aside0 (wc.heap[gw]? = some (.cells #[.slice A0 l0.length c0, .slice A1 l1.length c1, .slice (some ⟨kb, 0, none⟩) l0.length cap] 75 (0, 0))) ∧ Aside0 (Kd.R (Kd.int .i64) 3 wc base ok (.slice (some ⟨kb, 0, none⟩) l0.length cap) U) ∧ Aside0 (Kept w wc (fun k => k = kb)) ∧ Aside0 (Below w0.heap.size w0 wc))
            case first =>
              clear HS
              by_cases ci : i2 < yb
              · have cib : decide (i2 < yb) = true := decide_eq_true ci
                by_cases cj : j2 < yd
                · have cjb : decide (j2 < yd) = true := decide_eq_true cj
                  have i20 : 0 ≤ pb := by omega
                  have j20 : 0 ≤ pd := by omega
                  have ci2 : pb < (l0.length : Int) := by have := HQ.out; omega
                  have cj2 : pd < (l1.length : Int) := by have := HQ.out; omega
                  have p5 := eq_true i20
                  have p6 := eq_true j20
                  have p7 := eq_true ci2
                  have p8 := eq_true cj2
                  obtain ⟨ad3, ea3, hx3⟩ := Kd.at_int (HR1.out wr HK.out) pd j20 cj2
                  cases ea3
                  obtain ⟨ad2, ea2, hx2⟩ := Kd.at_int (HR0.out wr HK.out) pb i20 ci2
                  cases ea2
                  obtain ⟨bb, hbb⟩ : ∃ b : Bool, ((rd l0 pb) == (rd l1 pd)) = b := ⟨_, rfl⟩
                  have HBB : Aside0 (hb_iff bb (a + N < yb.toNat ∧ c + N < yd.toNat ∧ l0.getD (yb.toNat - 1) 0 = l1.getD (yd.toNat - 1) 0)) := ⟨by
                    unfold hb_iff
                    rw [← hbb, beq_iff_eq]
                    unfold rd
                    have := HI2'.out; have := HJ2'.out
                    rw [show pb.toNat = yb.toNat - 1 from by omega, show pd.toNat = yd.toNat - 1 from by omega]
                    constructor
                    · intro h; exact ⟨by omega, by omega, h⟩
                    · rintro ⟨_, _, h⟩; exact h⟩
                  clear ci cj ci2 cj2
                  go_wp2
                  repeat (go_quiet (fail); try go_wp2)
                  go_meet
                  case rel => exact ⟨bb, (by first | rfl | (simp; done) | (simp [*]; done)), HBB, ⟨blk_drewN HW.out _⟩, ⟨Kd.R_drewN HT.out _⟩, ⟨Kept.drewN HK.out _⟩, ⟨pw_below_drewN HB.out _⟩⟩
                · have cjb : decide (j2 < yd) = false := decide_eq_false cj
                  have HBB : Aside0 (hb_iff false (a + N < yb.toNat ∧ c + N < yd.toNat ∧ l0.getD (yb.toNat - 1) 0 = l1.getD (yd.toNat - 1) 0)) := ⟨by
                    unfold hb_iff
                    have := HI2'.out; have := HJ2'.out
                    constructor
                    · intro h; cases h
                    · rintro ⟨_, h, _⟩; exfalso; omega⟩
                  clear ci cj
                  go_wp2
                  repeat (go_quiet (fail); try go_wp2)
                  go_meet
                  case rel => exact ⟨false, (by first | rfl | (simp; done) | (simp [*]; done)), HBB, ⟨blk_drewN HW.out _⟩, ⟨Kd.R_drewN HT.out _⟩, ⟨Kept.drewN HK.out _⟩, ⟨pw_below_drewN HB.out _⟩⟩
              · have cib : decide (i2 < yb) = false := decide_eq_false ci
                have HBB : Aside0 (hb_iff false (a + N < yb.toNat ∧ c + N < yd.toNat ∧ l0.getD (yb.toNat - 1) 0 = l1.getD (yd.toNat - 1) 0)) := ⟨by
                  unfold hb_iff
                  have := HI2'.out; have := HJ2'.out
                  constructor
                  · intro h; cases h
                  · rintro ⟨h, _⟩; exfalso; omega⟩
                clear ci
                go_wp2
                repeat (go_quiet (fail); try go_wp2)
                go_meet
                case rel => exact ⟨false, (by first | rfl | (simp; done) | (simp [*]; done)), HBB, ⟨blk_drewN HW.out _⟩, ⟨Kd.R_drewN HT.out _⟩, ⟨Kept.drewN HK.out _⟩, ⟨pw_below_drewN HB.out _⟩⟩
            case rest =>
              clear HW HT HK HB e0 e1
              obtain ⟨bb, rfl, HBB, HW, HT, HK, HB⟩ := hcut
              cases bb with
              | true =>
                have HC := Aside0.mk (HBB.out.1 rfl)
                have e2 : wc.cell? ⟨gw, 2, none⟩ = some (.slice (some ⟨kb, 0, none⟩) l0.length cap) := (blk_cell HW.out 2).trans rfl
                have hp0 : 0 ≤ pb := by have := HC.out; omega
                have hp1 : pb < (l0.length : Int) := by have := HQ.out; omega
                have hp2 : pb.toNat < U.length := by have := HUL.out; omega
                have p1 := eq_true hp0
                have p2 := eq_true hp1
                obtain ⟨f3, f4⟩ := R_cell_nat HT.out pb.toNat hp2
                go_wp2
                clear hbw hdw hbw2 hdw2
                go_roundg (yb.toNat - 1 - (a + N))
                case measure => have := HC.out; have := HQ.out; omega
                case rel =>
                  refine ⟨pb, pd, U.set pb.toNat pd, rfl, rfl, by omega, by omega, by have := HC.out; omega, by omega, ⟨by have := HC.out; have := HQ.out; omega⟩, ⟨by rw [List.length_set]; exact HUL.out⟩, ⟨?_⟩, ⟨blk_far HW.out HNE.out _⟩, ⟨R_store_nat HT.out _ _⟩, ⟨Kept.setCell HK.out (.inl rfl) _⟩, ⟨below_set HB.out HKB.out⟩⟩
                  have h := HS.out
                  obtain ⟨q', hq1, hq2⟩ : ∃ q', gk = q' + 1 ∧ yb.toNat - 1 - (a + N) = q' := ⟨gk - 1, by have := HC.out; have := HQ.out; omega, by have := HC.out; have := HQ.out; omega⟩
                  rw [hq2]
                  rw [hq1, hp_back, if_pos HC.out] at h
                  have hd1 : 0 < yd.toNat := by have := HC.out; omega
                  rw [show pb.toNat = yb.toNat - 1 from by omega, show pd.toNat = yd.toNat - 1 from by omega, show pd = ((yd.toNat - 1 : Nat) : Int) from by omega]
                  exact h
              | false =>
                have hne : ¬ (a + N < yb.toNat ∧ c + N < yd.toNat ∧ l0.getD (yb.toNat - 1) 0 = l1.getD (yd.toNat - 1) 0) := fun h => by have := HBB.out.2 h; cases this
                have hsb : SB = (yb.toNat, yd.toNat, U) := by
                  have h := HS.out
                  cases gk with
                  | zero => exact h.symm
                  | succ q' => rw [hp_back, if_neg hne] at h; exact h.symm
                clear HBB hne HS hbw hdw hbw2 hdw2 hpb hpd HPB HPD
                obtain ⟨X, hX⟩ : ∃ X, hp_cut l0 (a + N) yb.toNat = X := ⟨_, rfl⟩
                obtain ⟨Y, hY⟩ : ∃ Y, hp_cut l1 (c + N) yd.toNat = Y := ⟨_, rfl⟩
                have HX := Aside0.mk hX
                have HY := Aside0.mk hY
                have hh := HH2.out
                rw [hsb] at hh
                unfold hp_rest at hh
                dsimp only at hh
                rw [hX, hY] at hh
                obtain ⟨⟨r1, r2, r3, r4, r5⟩, hbest, hh⟩ := Option.bind_eq_some_iff.mp hh
                dsimp only at hh
                have HBEST := Aside0.mk hbest
                have HH3 := Aside0.mk hh
                clear hh hbest hX hY hsb HH2
                have hXe : X = ((l0.take yb.toNat).drop i2.toNat) := by rw [← HX.out]; unfold hp_cut; rw [show i2.toNat = a + N from by have := HI2'.out; omega]
                have hYe : Y = ((l1.take yd.toNat).drop j2.toNat) := by rw [← HY.out]; unfold hp_cut; rw [show j2.toNat = c + N from by have := HJ2'.out; omega]
                have m1 : i2 ≤ yb := by have := HI2'.out; have := HQ.out; omega
                have m2 : yb ≤ (l0.length : Int) := by have := HQ.out; omega
                have m3 : j2 ≤ yd := by have := HJ2'.out; have := HQ.out; omega
                have m4 : yd ≤ (l1.length : Int) := by have := HQ.out; omega
                obtain ⟨q1, hq1, hqs1⟩ : ∃ i, Try.prog.info? 3 = some i ∧ i.size = 1 := ⟨_, rfl, rfl⟩
                obtain ⟨B1, hcut1, hA1, hC1⟩ := print_mid_of (P := Try.prog) (Value.int .i64) 0 22 3 .i64 .i64 Try.underlying22 hq1 hqs1 A0 c0 l0 i2 yb k1 m1 m2 HC0.out
                obtain ⟨B2, hcut2, hA2, hC2⟩ := print_mid_of (P := Try.prog) (Value.int .i64) 0 22 3 .i64 .i64 Try.underlying22 hq1 hqs1 A1 c1 l1 j2 yd k3 m3 m4 HC1.out
                rw [← hXe] at hcut1 hA1 hC1
                rw [← hYe] at hcut2 hA2 hC2
                have HD1 := Aside0.mk hC1
                have HD2 := Aside0.mk hC2
                have HE1 : Aside0 (∀ W_, Kept w W_ (fun k => k = kb) → Kd.C (Kd.int .i64) W_ B1 X.length X) := ⟨fun W_ hk => Kd.C_of_reads (h1 := fun _ => rfl) (hA1 _ (Kd.reads_of_C (HR0.out W_ hk)))⟩
                have HE2 : Aside0 (∀ W_, Kept w W_ (fun k => k = kb) → Kd.C (Kd.int .i64) W_ B2 Y.length Y) := ⟨fun W_ hk => Kd.C_of_reads (h1 := fun _ => rfl) (hA2 _ (Kd.reads_of_C (HR1.out W_ hk)))⟩
                clear hC1 hC2 hA1 hA2 m1 m2 m3 m4 hXe hYe hq1 hqs1
                have e0 : wc.cell? ⟨gw, 0, none⟩ = some (.slice A0 l0.length c0) := (blk_cell HW.out 0).trans rfl
                have e1 : wc.cell? ⟨gw, 1, none⟩ = some (.slice A1 l1.length c1) := (blk_cell HW.out 1).trans rfl
                go_upto_region 8 with (fail)
                (try simp only [Act.put, List.setIfInBounds_toArray, List.set_cons_zero, List.set_cons_succ])
                go_cut [11, 12] (fun v11 v12 wd => ∃ g11 : Nat, v11 = .pointer (some ⟨g11, 0, none⟩) ∧ v12 = .bool r5 ∧ Aside0 (w0.heap.size ≤ g11 ∧ g11 ≠ kb ∧ g11 ≠ gw) ∧ Aside0 (wd.heap[g11]? = some (.cells #[.int .i64 r1, .int .i64 r2, .int .i64 r3, .int .i64 r4] 27 (0, 0))) ∧ Aside0 (wd.heap[gw]? = some (.cells #[.slice A0 l0.length c0, .slice A1 l1.length c1, .slice (some ⟨kb, 0, none⟩) l0.length cap] 75 (0, 0))) ∧ Aside0 (Kd.R (Kd.int .i64) 3 wd base ok (.slice (some ⟨kb, 0, none⟩) l0.length cap) U) ∧ Aside0 (Kept w wd (fun k => k = kb)) ∧ Aside0 (Below w0.heap.size w0 wd))
                case first =>
                  have HNG0 := Aside0.mk (show gw ≠ wc.heap.size from by have h := blk_lt HW.out; omega)
                  have HG0 := Aside0.mk (show w0.heap.size ≤ wc.heap.size ∧ wc.heap.size ≠ kb from ⟨HB.out.size, by
                    have h := HT.out
                    obtain ⟨cells, hc⟩ := own_typed (Kd.own_of_R h) kb (by simp [Value.ownBlock])
                    have := blk_lt hc
                    omega⟩)
                  have hng0 : gw ≠ wc.heap.size := HNG0.out
                  have HKW := Aside0.mk HK.out.1
                  have hng0' : wc.heap.size ≠ gw := fun h => hng0 h.symm
                  go_region_held3 (fun w' => w'.cell? ⟨gw, 0, none⟩ = some (.slice A0 l0.length c0) ∧ w'.cell? ⟨gw, 1, none⟩ = some (.slice A1 l1.length c1)) (go_keep)
                    (first | (go_at_call 18; (with_reducible refine (histogram_Best.calls B1 _ X B2 _ Y r1 r2 r3 r4 r5 _ (HE1.out _ (by first | exact Kept.drew HK.out | exact Kept.drew (Kept.alloc HK.out _))) HD1.out (HE2.out _ (by first | exact Kept.drew HK.out | exact Kept.drew (Kept.alloc HK.out _))) HD2.out HBEST.out).mono ?_); rintro e w12 ⟨rfl, hb12⟩; have n0_ := Aside0.mk (Kd.R_below (by first | exact Kd.R_drew HT.out | exact Kd.R_drew (Kd.R_alloc HT.out _)) hb12); have n1_ := Aside0.mk (Kept.below (S := (fun k => k = kb)) (by first | exact Kept.drew HK.out | exact Kept.drew (Kept.alloc HK.out _)) hb12); have n2_ : Aside0 (Below w0.heap.size w0 w12) := ⟨by first | exact (below_drew1 HB.out).trans (hb12.mono (below_drew1 HB.out).size) | exact (below_drew1 (below_alloc HB.out _)).trans (hb12.mono (below_drew1 (below_alloc HB.out _)).size)⟩; have n3_ := Aside0.mk (blk_below (o := .cells #[.slice A0 l0.length c0, .slice A1 l1.length c1, .slice (some ⟨kb, 0, none⟩) l0.length cap] 75 (0, 0)) (g := gw) (by first | exact blk_drew HW.out | exact blk_drew (blk_alloc HW.out _)) hb12); (try (have BK11 := Aside0.mk (blk_below (g := wc.heap.size) (o := (.cells #[.int .i64 0, .int .i64 0, .int .i64 0, .int .i64 0] 27 (0, 0))) (by exact blk_drew (blk_new wc _)) hb12); have f0 := blk_frozen BK11.out 0; have f1 := blk_frozen BK11.out 1; have f2 := blk_frozen BK11.out 2; have f3 := blk_frozen BK11.out 3; have g0 := (blk_cell BK11.out 0).trans rfl; have g1 := (blk_cell BK11.out 1).trans rfl; have g2 := (blk_cell BK11.out 2).trans rfl; have g3 := (blk_cell BK11.out 3).trans rfl)); clear HT HK HB HW hb12 e0 e1; have HT := n0_; have HK := n1_; have HB := n2_; have HW := n3_; clear n0_ n1_ n2_ n3_; have hng : gw ≠ w12.heap.size := (by have h := blk_lt HW.out; omega); have hng' : w12.heap.size ≠ gw := fun h => hng h.symm; have e0 : w12.cell? ⟨gw, 0, none⟩ = some (.slice A0 l0.length c0) := (blk_cell HW.out 0).trans rfl; have e1 : w12.cell? ⟨gw, 1, none⟩ = some (.slice A1 l1.length c1) := (blk_cell HW.out 1).trans rfl))
                  all_goals (go_wp2; go_meet)
                  ·case rel =>
                    have hkbl : kb < w12.heap.size := by
                      obtain ⟨cells, hc⟩ := own_typed (Kd.own_of_R HT.out) kb (by simp [Value.ownBlock])
                      exact blk_lt hc
                    exact ⟨w12.heap.size, rfl, rfl, ⟨HB.out.size, by omega, hng'⟩, ⟨blk_new w12 _⟩, ⟨blk_alloc HW.out _⟩, ⟨Kd.R_alloc HT.out _⟩, ⟨Kept.alloc HK.out _⟩, ⟨below_alloc HB.out _⟩⟩
                  ·case rel =>
                    have G := HG0.out
                    have HG1 : w.heap.size ≤ wc.heap.size := HKW.out
                    exact ⟨wc.heap.size, rfl, rfl, ⟨G.1, G.2, hng0'⟩, ⟨blk_set (blk_set (blk_set (blk_set BK11.out 0 _) 1 _) 2 _) 3 _⟩, ⟨blk_far (blk_far (blk_far (blk_far HW.out hng0 _) hng0 _) hng0 _) hng0 _⟩, ⟨Kd.R_set (Kd.R_set (Kd.R_set (Kd.R_set HT.out BK11.out (by decide) 0 _) (blk_set BK11.out 0 _) (by decide) 1 _) (blk_set (blk_set BK11.out 0 _) 1 _) (by decide) 2 _) (blk_set (blk_set (blk_set BK11.out 0 _) 1 _) 2 _) (by decide) 3 _⟩, ⟨Kept.setCell (Kept.setCell (Kept.setCell (Kept.setCell HK.out (.inr HG1) _) (.inr HG1) _) (.inr HG1) _) (.inr HG1) _⟩, ⟨below_set (below_set (below_set (below_set HB.out G.1) G.1) G.1) G.1⟩⟩
                case rest =>
                  clear HW HT HK HB e0 e1
                  obtain ⟨g11, rfl, rfl, HG, BK11, HW, HT, HK, HB⟩ := hcut
                  cases r5 with
                  | false =>
                    have hTe : T' = U := by
                      have h := HH3.out
                      rw [if_pos rfl] at h
                      exact (Option.some.inj h).symm
                    subst hTe
                    go_wp2
                    go_end0
                    exact ⟨rfl, HW.out, HT.out, HUL.out, HK.out, HB.out⟩
                  | true =>
                    have HH4 := Aside0.mk (by have h := HH3.out; rw [if_neg (by decide)] at h; exact h)
                    clear HH3
                    have g3 : wc.cell? ⟨g11, 3, none⟩ = some (.int .i64 r4) := (blk_cell BK11.out 3).trans rfl
                    by_cases hr4 : r4 > 64
                    · have hd4 : decide (64 < r4) = true := decide_eq_true hr4
                      -- BRA
                      have hh := HH4.out
                      rw [if_pos hr4] at hh
                      obtain ⟨⟨lm, em⟩, hmd, hh⟩ := Option.bind_eq_some_iff.mp hh
                      dsimp only at hh
                      obtain ⟨⟨kk, ek⟩, hkp, hh⟩ := Option.bind_eq_some_iff.mp hh
                      dsimp only at hh
                      by_cases hkl : kk.length ≤ yb.toNat - (a + N)
                      case neg => rw [if_neg hkl] at hh; cases hh
                      rw [if_pos hkl] at hh
                      have HLS := Aside0.mk (Option.some.inj hh)
                      have HMD := Aside0.mk hmd
                      have HKL := Aside0.mk hkl
                      obtain ⟨qb, hqb⟩ : ∃ qb, yb - i2 = qb := ⟨_, rfl⟩
                      obtain ⟨qd, hqd⟩ : ∃ qd, yd - j2 = qd := ⟨_, rfl⟩
                      have HKP : Aside0 (edits_Keep.f k lm qb qd = some (kk, ek)) := ⟨by
                        rw [← hqb, ← hqd, show yb - i2 = (yb.toNat : Int) - ((a + N : Nat) : Int) from by have := HI2'.out; omega, show yd - j2 = (yd.toNat : Int) - ((c + N : Nat) : Int) from by have := HJ2'.out; omega]
                        exact hkp⟩
                      have hqw : wrap64 (yb - i2) = qb := by rw [← hqb]; unfold wrap64; omega
                      have hqw2 : wrap64 (yd - j2) = qd := by rw [← hqd]; unfold wrap64; omega
                      have HQW := Aside0.mk hqw
                      have HQW2 := Aside0.mk hqw2
                      clear hh hmd hkp hkl HH4 hqb hqd hqw hqw2
                      go_wp2
                      (try simp only [Act.put, List.setIfInBounds_toArray, List.set_cons_zero, List.set_cons_succ])
                      go_cut [13] (fun v13 wd => Aside0 (Kd.R k64 64 wd w.heap.size (fun _ => True) v13 lm) ∧ Aside0 (wd.heap[gw]? = some (.cells #[.slice A0 l0.length c0, .slice A1 l1.length c1, .slice (some ⟨kb, 0, none⟩) l0.length cap] 75 (0, 0))) ∧ Aside0 (Kd.R (Kd.int .i64) 3 wd base ok (.slice (some ⟨kb, 0, none⟩) l0.length cap) U) ∧ Aside0 (Kept w wd (fun k => k = kb)) ∧ Aside0 (Below w0.heap.size w0 wd))
                      case first =>
                        have e0 : wc.cell? ⟨gw, 0, none⟩ = some (.slice A0 l0.length c0) := (blk_cell HW.out 0).trans rfl
                        have e1 : wc.cell? ⟨gw, 1, none⟩ = some (.slice A1 l1.length c1) := (blk_cell HW.out 1).trans rfl
                        go_region_held3 (fun w' => w'.cell? ⟨gw, 0, none⟩ = some (.slice A0 l0.length c0) ∧ w'.cell? ⟨gw, 1, none⟩ = some (.slice A1 l1.length c1)) (go_keep)
                          (first | (go_at_call 22; (with_reducible refine (minimal_Diff.calls k B1 _ X B2 _ Y lm em _ (HE1.out _ (Kept.drew HK.out)) HD1.out (HE2.out _ (Kept.drew HK.out)) HD2.out HMD.out).mono ?_); rintro e w13 ⟨v13, rfl, hk13, hb13⟩; have n0_ := Aside0.mk (Kd.R_below (Kd.R_drew HT.out) hb13); have n1_ := Aside0.mk (Kept.below (S := (fun k => k = kb)) (Kept.drew HK.out) hb13); have n2_ : Aside0 (Below w0.heap.size w0 w13) := ⟨(below_drew1 HB.out).trans (hb13.mono (below_drew1 HB.out).size)⟩; have n3_ := Aside0.mk (blk_below (o := (.cells #[.slice A0 l0.length c0, .slice A1 l1.length c1, .slice (some ⟨kb, 0, none⟩) l0.length cap] 75 (0, 0))) (g := gw) (blk_drew HW.out) hb13); have H13 := Aside0.mk (Kd.R_lower hk13 (base' := w.heap.size) HK.out.1); clear HT HK HB HW hb13 hk13 e0 e1; have HT := n0_; have HK := n1_; have HB := n2_; have HW := n3_; clear n0_ n1_ n2_ n3_; have e0 : w13.cell? ⟨gw, 0, none⟩ = some (.slice A0 l0.length c0) := (blk_cell HW.out 0).trans rfl; have e1 : w13.cell? ⟨gw, 1, none⟩ = some (.slice A1 l1.length c1) := (blk_cell HW.out 1).trans rfl))
                        all_goals (go_wp2; go_meet)
                        all_goals (case rel => exact ⟨H13, HW, HT, HK, HB⟩)
                      case rest =>
                        clear HW HT HK HB
                        obtain ⟨H13, HW, HT, HK, HB⟩ := hcut
                        obtain ⟨A13, c13, e13, hc13, hr13⟩ := Kd.R_reads H13.out
                        subst e13
                        have HC13 := Aside0.mk hc13
                        have HR13 := Aside0.mk hr13
                        clear hc13 hr13 hcut1 hcut2 HE1 HE2 HD1 HD2
                        have hqw := HQW.out
                        have hqw2 := HQW2.out
                        have hqx := (i64_w _).trans hqw
                        have hqx2 := (i64_w _).trans hqw2
                        go_wp2_with (first | (go_at_call 45; (with_reducible refine (edits_Keep.calls k A13 _ lm qb qd kk ek _ HR13.out HC13.out HKP.out).mono ?_); rintro e w14 ⟨v14, rfl, hk14, hb14⟩; obtain ⟨Ao, co, eo⟩ := Kd.R_slice hk14; subst eo; have n0_ := Aside0.mk (Kd.R_below HT.out hb14); have n1_ := Aside0.mk (Kept.below (S := (fun k => k = kb)) HK.out hb14); have n2_ : Aside0 (Below w0.heap.size w0 w14) := ⟨HB.out.trans (hb14.mono HB.out.size)⟩; have n3_ := Aside0.mk (blk_below (o := (.cells #[.slice A0 l0.length c0, .slice A1 l1.length c1, .slice (some ⟨kb, 0, none⟩) l0.length cap] 75 (0, 0))) (g := gw) HW.out hb14); have HK13 := HK; have HT13 := HT; have H14r := Aside0.mk hk14; clear HT HK HB HW hb14 hk14 HR13 H13 HC13; have HT := n0_; have HK := n1_; have HB := n2_; have HW := n3_; clear n0_ n1_ n2_ n3_))
                        clear hqw hqw2 hqx hqx2
                        have hlk : Kd.R (Kd.int .i64) 3 _ _ (fun k_ => k_ ≠ kb) (.slice Ao kk.length co) kk := Kd.R_of_own (Kd.own_of_R H14r.out) (fun k_ hk => by
                          have h1 := Kd.R_base H14r.out k_ hk
                          obtain ⟨cells, hc⟩ := own_typed (Kd.own_of_R HT13.out) kb (by simp [Value.ownBlock])
                          have h3 := blk_lt hc
                          intro e
                          subst e
                          omega)
                        have H14 := Aside0.mk (Kd.R_lower hlk (base' := w.heap.size) HK13.out.1)
                        clear hlk HK13 HT13 H14r
                        have HA0 : Aside0 (ls_lay j2 (i2 + 0).toNat (kk.drop (0 : Int).toNat) U = T') := ⟨by rw [show (i2 + 0).toNat = a + N from by have := HI2'.out; omega, HJ2'.out]; exact HLS.out⟩
                        have HKL2 : Aside0 (i2 + (kk.length : Int) ≤ (l0.length : Int)) := ⟨by have := HKL.out; have := HI2'.out; have := HQ.out; omega⟩
                        clear HLS HKL
                        go_loopg [193] kk.length (fun q v193 w' => ∃ (z : Int) (T : List Int), v193 = .int .i64 z ∧ 0 ≤ z ∧ z ≤ 1000000 ∧ Aside0 (z + (q : Int) = (kk.length : Int)) ∧ Aside0 (T.length = l0.length) ∧ Aside0 (ls_lay j2 (i2 + z).toNat (kk.drop z.toNat) T = T') ∧ Aside0 (Kd.R (Kd.int .i64) 3 w' base ok (.slice (some ⟨kb, 0, none⟩) l0.length cap) T) ∧ Aside0 (Kd.R (Kd.int .i64) 3 w' w.heap.size (fun k_ => k_ ≠ kb) (.slice Ao kk.length co) kk) ∧ Aside0 (w'.heap[gw]? = some (.cells #[.slice A0 l0.length c0, .slice A1 l1.length c1, .slice (some ⟨kb, 0, none⟩) l0.length cap] 75 (0, 0))) ∧ Aside0 (Kept w w' (fun k => k = kb)) ∧ Aside0 (Below w0.heap.size w0 w'))
                        case atStart => exact ⟨0, U, rfl, by omega, by omega, ⟨by omega⟩, HUL, HA0, HT, H14, HW, HK, HB⟩
                        case round =>
                          clear HA0 HT H14 HW HK HB
                          obtain ⟨z, T, rfl, hz0, hz1, HZ, HTL3, HA, HT, H14, HW, HK, HB⟩ := hrel
                          cases gk with
                          | zero =>
                            have hzd : decide (z < (kk.length : Int)) = false := decide_eq_false (by have := HZ.out; omega)
                            have hr : T = T' := by
                              have h := HA.out
                              rw [List.drop_eq_nil_of_le (by have := HZ.out; omega)] at h
                              exact h
                            subst hr
                            go_wp2
                            go_end0
                            exact ⟨rfl, HW.out, HT.out, HTL3.out, HK.out, HB.out⟩
                          | succ q1 =>
                            have hzl : z < (kk.length : Int) := by have := HZ.out; omega
                            have hzd : decide (z < (kk.length : Int)) = true := decide_eq_true hzl
                            obtain ⟨g8, c8, e8, hg8, _⟩ := Kd.R_form H14.out (by omega)
                            injection e8 with e81 e82 e83
                            subst e81 e83
                            have p1 := eq_true hz0
                            have p2 := eq_true hzl
                            obtain ⟨f1, f2⟩ := Kd.R_cell (0 : Int) H14.out z hz0 hzl
                            obtain ⟨v, hv⟩ : ∃ v, rdOf 0 kk z = v := ⟨_, rfl⟩
                            rw [hv] at f1
                            have HV : Aside0 (kk.drop z.toNat = v :: kk.drop (z.toNat + 1)) := ⟨by
                              have hlt : z.toNat < kk.length := by omega
                              rw [List.drop_eq_getElem_cons hlt, ← hv]
                              simp [rdOf, List.getD_eq_getElem?_getD, hlt]⟩
                            clear hv f2 e82 hg8
                            by_cases hc : v ≥ 0
                            · have hcd : decide (v ≥ 0) = true := decide_eq_true hc
                              have hcd2 : decide (0 ≤ v) = true := decide_eq_true hc
                              obtain ⟨pl, hple⟩ : ∃ pl, i2 + z = pl := ⟨_, rfl⟩
                              have hpl : pl.toNat < T.length := by have := HTL3.out; have := HZ.out; have := HKL2.out; omega
                              obtain ⟨f3, f4⟩ := R_cell_nat HT.out pl.toNat hpl
                              have e2 : wr.cell? ⟨gw, 2, none⟩ = some (.slice (some ⟨kb, 0, none⟩) l0.length cap) := (blk_cell HW.out 2).trans rfl
                              have hp0 : 0 ≤ pl := by omega
                              have hp1 : pl < (l0.length : Int) := by have := HTL3.out; omega
                              have p3 := eq_true hp0
                              have p4 := eq_true hp1
                              have HPL := Aside0.mk hple
                              have hpw : wrap64 (i2 + z) = pl := by rw [← hple]; unfold wrap64; omega
                              have hpw2 := (i64_w _).trans hpw
                              clear hple hpl
                              go_wp2
                              repeat (go_quiet (fail); try go_wp2)
                              clear hpw hpw2
                              go_roundg q1
                              case measure => omega
                              case rel =>
                                refine ⟨z + 1, T.set pl.toNat (wrap64 (j2 + v)), by go_num, by omega, by have := HZ.out; have := HKL2.out; omega, ⟨by have := HZ.out; omega⟩, ⟨by rw [List.length_set]; exact HTL3.out⟩, ⟨?_⟩, ⟨R_store_nat HT.out _ _⟩, ⟨Kd.R_far (p := ⟨kb, pl.toNat, none⟩) H14.out (fun k_ hk => hk) _⟩, ⟨blk_far HW.out HNE.out _⟩, ⟨Kept.setCell HK.out (.inl rfl) _⟩, ⟨below_set HB.out HKB.out⟩⟩
                                have h := HA.out
                                rw [HV.out, ls_lay, if_pos hc] at h
                                rw [show (i2 + (z + 1)).toNat = (i2 + z).toNat + 1 from by omega, show (z + 1).toNat = z.toNat + 1 from by omega, ← HPL.out]
                                exact h
                            · have hcd : decide (v ≥ 0) = false := decide_eq_false hc
                              have hcd2 : decide (0 ≤ v) = false := decide_eq_false hc
                              go_wp2
                              go_roundg q1
                              case measure => omega
                              case rel =>
                                refine ⟨z + 1, T, by go_num, by omega, by have := HZ.out; have := HKL2.out; omega, ⟨by have := HZ.out; omega⟩, HTL3, ⟨?_⟩, HT, H14, HW, HK, HB⟩
                                have h := HA.out
                                rw [HV.out, ls_lay, if_neg (Int.not_le.2 hc)] at h
                                rw [show (i2 + (z + 1)).toNat = (i2 + z).toNat + 1 from by omega, show (z + 1).toNat = z.toNat + 1 from by omega]
                                exact h
                      -- BREND
                    · have hd4 : decide (64 < r4) = false := decide_eq_false hr4
                      -- BRB
                      have hh := HH4.out
                      rw [if_neg hr4] at hh
                      by_cases hgd : 0 ≤ r1 ∧ 0 ≤ r2 ∧ 0 ≤ r3 ∧ ((a + N : Nat) : Int) + r1 + r3 ≤ (yb.toNat : Int) ∧ ((c + N : Nat) : Int) + r2 + r3 ≤ (yd.toNat : Int)
                      case neg => rw [if_neg hgd] at hh; cases hh
                      rw [if_pos hgd] at hh
                      obtain ⟨d1, d2, d3, d4, d5⟩ := hgd
                      obtain ⟨T4, hrec1, hrec2⟩ := Option.bind_eq_some_iff.mp hh
                      clear hh HH4
                      have HREC1 := Aside0.mk hrec1
                      have HREC2 := Aside0.mk hrec2
                      clear hrec1 hrec2
                      obtain ⟨uu, huu⟩ : ∃ uu, i2 + r1 = uu := ⟨_, rfl⟩
                      obtain ⟨vv, hvv⟩ : ∃ vv, j2 + r2 = vv := ⟨_, rfl⟩
                      obtain ⟨u2, hu2⟩ : ∃ u2, uu + r3 = u2 := ⟨_, rfl⟩
                      obtain ⟨v2, hv2⟩ : ∃ v2, vv + r3 = v2 := ⟨_, rfl⟩
                      have HUU : Aside0 (uu = ((a + N + r1.toNat : Nat) : Int)) := ⟨by have := HI2'.out; omega⟩
                      have HVV : Aside0 (vv = ((c + N + r2.toNat : Nat) : Int)) := ⟨by have := HJ2'.out; omega⟩
                      have HU2 : Aside0 (u2 = ((a + N + r1.toNat + r3.toNat : Nat) : Int)) := ⟨by have := HUU.out; omega⟩
                      have HV2 : Aside0 (v2 = ((c + N + r2.toNat + r3.toNat : Nat) : Int)) := ⟨by have := HVV.out; omega⟩
                      have HYB : Aside0 (yb = ((yb.toNat : Nat) : Int)) := ⟨by omega⟩
                      have HYD : Aside0 (yd = ((yd.toNat : Nat) : Int)) := ⟨by omega⟩
                      have HL0 := Aside0.mk hl0
                      have HL1 := Aside0.mk hl1
                      have HBD : Aside0 (a + N + r1.toNat + r3.toNat ≤ yb.toNat ∧ c + N + r2.toNat + r3.toNat ≤ yd.toNat ∧ yb.toNat ≤ l0.length ∧ yd.toNat ≤ l1.length ∧ 0 ≤ uu ∧ uu + r3 ≤ (l0.length : Int) ∧ 0 ≤ vv ∧ vv + r3 ≤ 1000000 ∧ yb.toNat ≤ 100000 ∧ yd.toNat ≤ 100000 ∧ uu ≤ 100000 ∧ vv ≤ 100000 ∧ r3 ≤ 100000) := ⟨by have := HUU.out; have := HVV.out; have := HQ.out; omega⟩
                      have HT1' : Aside0 (hp_lay r3.toNat uu.toNat vv U = hp_lay r3.toNat (a + N + r1.toNat) (((c + N : Nat) : Int) + r2) U) := ⟨by rw [show uu.toNat = a + N + r1.toNat from by have := HUU.out; omega, show vv = ((c + N : Nat) : Int) + r2 from by have := HJ2'.out; omega]⟩
                      have HREC1' : Aside0 (hp_piece l0 l1 k (a + N) (a + N + r1.toNat) (c + N) (c + N + r2.toNat) (hp_lay r3.toNat uu.toNat vv U) = some T4) := ⟨by rw [HT1'.out]; exact HREC1.out⟩
                      clear HT1' HREC1
                      have HD3 := Aside0.mk d3
                      have huw : wrap64 (i2 + r1) = uu := by rw [← huu]; have := HBD.out; unfold wrap64; omega
                      have hvw : wrap64 (j2 + r2) = vv := by rw [← hvv]; have := HBD.out; unfold wrap64; omega
                      have hu2w : wrap64 (uu + r3) = u2 := by rw [← hu2]; have := HBD.out; unfold wrap64; omega
                      have hv2w : wrap64 (vv + r3) = v2 := by rw [← hv2]; have := HBD.out; unfold wrap64; omega
                      have HW1 := Aside0.mk ((i64_w _).trans huw)
                      have HW2 := Aside0.mk ((i64_w _).trans hvw)
                      have HW3 := Aside0.mk ((i64_w _).trans hu2w)
                      have HW4 := Aside0.mk ((i64_w _).trans hv2w)
                      have HW5 := Aside0.mk huw
                      have HW6 := Aside0.mk hvw
                      have HW7 := Aside0.mk hu2w
                      have HW8 := Aside0.mk hv2w
                      clear huu hvv hu2 hv2 d1 d2 d3 d4 d5 hcut1 hcut2 HE1 HE2 HD1 HD2 huw hvw hu2w hv2w
                      have g0 : wc.cell? ⟨g11, 0, none⟩ = some (.int .i64 r1) := (blk_cell BK11.out 0).trans rfl
                      have g1 : wc.cell? ⟨g11, 1, none⟩ = some (.int .i64 r2) := (blk_cell BK11.out 1).trans rfl
                      have g2 : wc.cell? ⟨g11, 2, none⟩ = some (.int .i64 r3) := (blk_cell BK11.out 2).trans rfl
                      have x1 := HW1.out
                      have x2 := HW2.out
                      have x3 := HW3.out
                      have x4 := HW4.out
                      have x5 := HW5.out
                      have x6 := HW6.out
                      have x7 := HW7.out
                      have x8 := HW8.out
                      go_wp2
                      repeat (go_quiet (fail); try go_wp2_with (first | (go_at_call 57; (with_reducible refine (histogram_hold.calls gw kb cap base ok _ _ uu vv r3 U l0.length HUL.out w0 _ (pw_below_drewN HB.out _) HKB.out (blk_drewN HW.out _) (Kd.R_drewN HT.out _) HBD.out.2.2.2.2.1 HD3.out HBD.out.2.2.2.2.2.1 (by have := HL0.out; omega) HBD.out.2.2.2.2.2.2.1 HBD.out.2.2.2.2.2.2.2.1).mono ?_); rintro e w19 ⟨rfl, hw9, ht9, hk9, hb9⟩; have n1_ := Aside0.mk (Kept.then_ (Kept.drewN HK.out _) hk9 (fun _ h => .inl h)); have n2_ := Aside0.mk (blk_kept (blk_drewN BK11.out _) hk9 HG.out.2.1); clear HW HT HK HB BK11 g0 g1 g2 g3; have HW := Aside0.mk hw9; have HT := Aside0.mk ht9; have HK := n1_; have HB := Aside0.mk hb9; have BK11 := n2_; clear n1_ n2_ hw9 ht9 hk9 hb9; have HTL8 : Aside0 ((hp_lay r3.toNat uu.toNat vv U).length = l0.length) := ⟨by rw [hp_lay_len]; exact HUL.out⟩; have g2 := (blk_cell BK11.out 2).trans rfl) | (go_at_call 50; (with_reducible refine (IH.out i2 uu j2 vv _ _ _ _ _ _ _ HI2'.out HUU.out HJ2'.out HVV.out HB.out HW.out HT.out HTL8.out (fun W_ hk => HR0.out W_ (Kept.then_ HK.out hk (fun _ h => .inl h))) (fun W_ hk => HR1.out W_ (Kept.then_ HK.out hk (fun _ h => .inl h))) (by have := HBD.out; omega) (by have := HBD.out; omega) (by have := HBD.out; omega) (by have := HBD.out; omega) HREC1'.out).mono ?_); rintro e w20 ⟨rfl, hw9, ht9, hl9, hk9, hb9⟩; have n1_ := Aside0.mk (Kept.then_ HK.out hk9 (fun _ h => .inl h)); have n2_ := Aside0.mk (blk_kept BK11.out hk9 HG.out.2.1); clear HW HT HK HB BK11 g2; have HW := Aside0.mk hw9; have HT := Aside0.mk ht9; have HK := n1_; have HB := Aside0.mk hb9; have BK11 := n2_; have HTL7 := Aside0.mk hl9; clear n1_ n2_ hw9 ht9 hk9 hb9 hl9; have g2 := (blk_cell BK11.out 2).trans rfl) | (go_at_call 50; (with_reducible refine (IH.out u2 yb v2 yd _ _ _ _ _ _ _ HU2.out HYB.out HV2.out HYD.out HB.out HW.out HT.out HTL7.out (fun W_ hk => HR0.out W_ (Kept.then_ HK.out hk (fun _ h => .inl h))) (fun W_ hk => HR1.out W_ (Kept.then_ HK.out hk (fun _ h => .inl h))) (by have := HBD.out; omega) (by have := HBD.out; omega) (by have := HBD.out; omega) (by have := HBD.out; omega) HREC2.out).mono ?_); rintro e w21 ⟨rfl, hw9, ht9, hl9, hk9, hb9⟩; have n1_ := Aside0.mk (Kept.then_ HK.out hk9 (fun _ h => .inl h)); have n2_ := Aside0.mk (blk_kept BK11.out hk9 HG.out.2.1); clear HW HT HK HB BK11 g2; have HW := Aside0.mk hw9; have HT := Aside0.mk ht9; have HK := n1_; have HB := Aside0.mk hb9; have BK11 := n2_; have HTL9 := Aside0.mk hl9; clear n1_ n2_ hw9 ht9 hk9 hb9 hl9; have g2 := (blk_cell BK11.out 2).trans rfl)))
                      go_end0
                      exact ⟨rfl, HW.out, HT.out, HTL9.out, HK.out, HB.out⟩
                      -- BREND
set_option maxHeartbeats 2000000 in
set_option maxRecDepth 100000 in
theorem hp_repeat.calls (A0 : Option Addr) (c0 : Nat) (l0 : List Int) (a1 : Int) (r : List Int) (w : World) (hr0 : Kd.C (Kd.int .i64) w A0 l0.length l0) (hc0 : l0.length ≤ c0) (h : slices_Repeat_int_int.f l0 a1 = some r) :
    Calls Try.prog 46 #[.slice A0 l0.length c0, .int .i64 a1] w fun e w' => e = .returned (.slice (some ⟨w.heap.size, 0, none⟩) r.length r.length) ∧ Kd.R (Kd.int .i64) 3 w' w.heap.size (fun _ => True) (.slice (some ⟨w.heap.size, 0, none⟩) r.length r.length) r ∧ Below w.heap.size w w' := by
  unfold slices_Repeat_int_int.f at h
  by_cases hl : l0.length = 1 ∧ 0 ≤ a1 ∧ a1 ≤ 1000000
  case neg => rw [if_neg hl] at h; cases h
  rw [if_pos hl] at h
  obtain rfl := Option.some.inj h
  clear h
  obtain ⟨hl1, hn0, hn1⟩ := hl
  obtain ⟨x, rfl⟩ := List.length_eq_one_iff.mp hl1
  obtain ⟨ad, ea, hx0⟩ := Kd.at_int hr0 0 (by omega) (by simp)
  cases ea
  simp only [List.length_cons, List.length_nil, Nat.zero_add, List.getD_cons_zero] at *
  have HX := Aside0.mk hx0
  clear hr0 hx0 hl1
  obtain ⟨n, rfl⟩ : ∃ n : Nat, a1 = (n : Int) := ⟨a1.toNat, by omega⟩
  have HM := Aside0.mk (rp_mul (n : Int) hn0 hn1)
  simp only [Int.toNat_natCast]
  have hmk := run_make_row' (P := Try.prog) 22 3 (.int .i64 0) 8 Try.underlying22 info3 rfl .i64 .i64 n (by omega) (by omega)
  have HB := Aside0.mk (Below.refl w.heap.size w)
  have q1 : IntKind.u64.wrap (n : Int) = (n : Int) := by rw [IntKind.wrap_u64]; omega
  have q2 : IntKind.i64.wrap (n : Int) = (n : Int) := by rw [IntKind.wrap_i64]; omega
  go_enter Try.func46, Try.ntmps46
  have hx1 : ∀ nd, ((w.drewN nd).alloc (Obj.cells (madeCells #[Value.int IntKind.i64 0] n) 3)).cell? (ad.add 0) = some (Value.int .i64 x) := by
    intro nd
    have h := HX.out
    rw [show rd [x] 0 = x from rfl] at h
    exact ((below_alloc (pw_below_drewN (Below.refl _ w) nd) _).cell (World.block_lt_of_cell? w _ h)).trans h
  have HX1 := Aside0.mk hx1
  clear hx1
  obtain ⟨m0, hm0⟩ : ∃ m0, m0 = min 1 n := ⟨_, rfl⟩
  obtain ⟨g, hg⟩ : ∃ g, g = w.heap.size := ⟨_, rfl⟩
  have HG := Aside0.mk hg
  have HROW : ∀ nd, Aside0 (((w.drewN nd).alloc (Obj.cells (madeCells #[Value.int IntKind.i64 0] n) 3)).heap[g]? = some (.cells (rp_row x 0 n).toArray 3 (0, 0))) := fun nd => ⟨by
    have h := blk_new (w.drewN nd) (Obj.cells (madeCells #[Value.int IntKind.i64 0] n) 3)
    rw [rp_made x] at h
    rw [rp_made x, hg]
    exact h⟩
  have hcl : (List.replicate m0 (Value.int .i64 x)).length = Nat.min 1 n := by rw [List.length_replicate, hm0]
  have hcf : 0 + (List.replicate m0 (Value.int .i64 x)).length ≤ (rp_row x 0 n).length := by rw [List.length_replicate, rp_row_len x 0 n (by omega)]; omega
  have h1c : ∀ v ∈ List.replicate m0 (Value.int .i64 x), v.oneCell' = true := by intro v hv; rw [List.eq_of_mem_replicate hv]; rfl
  have hgb : w.heap.size ≤ g := by rw [hg]; exact Nat.le_refl _
  go_wp2_with (first | (go_at_call 56; (with_reducible refine (bits_Mul.calls 1 (n : Int) 0 (n : Int) _ HM.out).mono ?_); rintro e w1 ⟨rfl, ⟨nd, rfl⟩⟩) | ((with_reducible refine gate_dst (N := 33) rfl ?_); go_loud (refine wpList_copy_splice rfl _ _ 22 22 rfl 3 Try.underlying22 (by kernel_rfl) (some ⟨w.heap.size, 0, none⟩) (some ad) n n 1 c0 rfl rfl g 0 (rp_row x 0 n) 3 (HROW nd).out (List.replicate m0 (Value.int .i64 x)) hcl (fun hp => ⟨by rw [HG.out], ad, rfl, rp_src _ (HX1.out nd) (by omega)⟩) hcf h1c w.heap.size w (below_alloc (pw_below_drewN HB.out nd) _) hgb ?_); intro w4 hg4 hb4))
  have hrow : w4.heap[g]? = some (.cells (rp_row x m0 n).toArray 3 (0, 0)) := by
    have h : w4.heap[g]? = some (Obj.cells (splice (rp_row x 0 n) 0 (List.replicate m0 (Value.int IntKind.i64 x))).toArray 3 (0, 0)) := hg4
    rw [rp_splice x 0 m0 n (by omega), Nat.zero_add] at h
    exact h
  have HROW4 := Aside0.mk hrow
  have HB4 := Aside0.mk hb4
  clear hrow hb4 hg4 HROW hcl hcf h1c HX1 HX HM HB
  subst hg
  clear HG
  obtain ⟨i0, hi0, hs0⟩ : ∃ i0, Try.prog.info? 3 = some i0 ∧ i0.size = 1 := ⟨_, rfl, rfl⟩
  go_loopg [8] (n - m0) (fun q v8 w' => ∃ m : Int, v8 = .int .i64 m ∧ 0 ≤ m ∧ m ≤ 1000000 ∧ Aside0 (m + (q : Int) = (n : Int) ∧ (1 ≤ m ∨ n = 0)) ∧ Aside0 (w'.heap[w.heap.size]? = some (.cells (rp_row x m.toNat n).toArray 3 (0, 0))) ∧ Aside0 (Below w.heap.size w w'))
  case atStart =>
    refine ⟨(m0 : Int), ?_, by omega, by omega, ⟨by omega, by omega⟩, HROW4, HB4⟩
    rw [hm0]
  case round =>
    clear HROW4 HB4
    obtain ⟨m, rfl, hm1, hm2, HZ, HROW, HB⟩ := hrel
    cases gk with
    | zero =>
      have hmd : decide (m < (n : Int)) = false := decide_eq_false (by have := HZ.out; omega)
      have hmn : m.toNat = n := by have := HZ.out.1; omega
      go_wp2
      go_ret
      have hlen : ∀ z : Int, (List.replicate n z).length = n := fun z => List.length_replicate
      refine ⟨by rw [hlen]; rfl, ?_, HB.out⟩
      rw [hlen]
      refine Kd.R_of_own ⟨by simp [encs], .inr ⟨w.heap.size, n, _, by simp, hgb, HROW.out, by simp, by unfold maxLen; omega, by rw [List.size_toArray, rp_row_len x m.toNat n (by omega), Nat.mul_one], ?_⟩⟩ (fun _ _ => trivial)
      have e : m.toNat = n := by have := HZ.out; omega
      rw [e]
      simp [rp_row, encs]
    | succ q1 =>
      have hml : m < (n : Int) := by have := HZ.out; omega
      have hmd : decide (m < (n : Int)) = true := decide_eq_true hml
      have p1 := eq_true hm1
      have p2 := eq_true (show m ≤ (n : Int) by omega)
      have p3 := eq_false (show ¬ (n = m.toNat) by omega)
      have hs1 : ∀ W : World, (Instr.slice 22 (.slice (some ⟨w.heap.size, 0, none⟩) n n) (some (.int .i64 m)) none none).run Try.prog W = .ok (.slice (some ⟨w.heap.size, m.toNat, none⟩) (n - m.toNat) (n - m.toNat)) W := by
        intro W
        have := run_cut_l 22 3 Try.underlying22 hi0 hs0 w.heap.size 0 n n m hm1 (by omega) hml W
        rw [Nat.zero_add] at this
        exact this
      have hs2 : ∀ W : World, (Instr.slice 22 (.slice (some ⟨w.heap.size, 0, none⟩) n n) none (some (.int .i64 m)) none).run Try.prog W = .ok (.slice (some ⟨w.heap.size, 0, none⟩) m.toNat n) W := by
        intro W
        have hel : Try.prog.elem 22 = 3 := by simp [Program.elem, Try.underlying22]
        rw [run_slice_h W 22 _ n n (by rw [hel]; exact Try.underlying22) .i64 m hm1 (by omega), hel]
        simp [sizeOf, typeInfo, hi0, hs0, sliced, Result.andThen, Addr.add]
      obtain ⟨q, hq⟩ : ∃ q, q = min m.toNat (n - m.toNat) := ⟨_, rfl⟩
      have hcl : (List.replicate q (Value.int .i64 x)).length = Nat.min m.toNat (n - m.toNat) := by rw [List.length_replicate, hq]
      have hcf : m.toNat + (List.replicate q (Value.int .i64 x)).length ≤ (rp_row x m.toNat n).length := by rw [List.length_replicate, rp_row_len x m.toNat n (by omega)]; omega
      have h1c : ∀ v ∈ List.replicate q (Value.int .i64 x), v.oneCell' = true := by intro v hv; rw [List.eq_of_mem_replicate hv]; rfl
      go_wp2
      go_region_law (refine step_copy_splice rfl (.tmp 41) (.tmp 44) 22 22 rfl 3 Try.underlying22 (by kernel_rfl) (some ⟨w.heap.size, m.toNat, none⟩) (some ⟨w.heap.size, 0, none⟩) (n - m.toNat) (n - m.toNat) m.toNat n ?hd ?hs w.heap.size m.toNat (rp_row x m.toNat n) 3 (by first | exact HROW.out | exact blk_drew HROW.out) (List.replicate q (Value.int .i64 x)) hcl (fun hp => ⟨rfl, ⟨w.heap.size, 0, none⟩, rfl, rp_src2 (by first | exact HROW.out | exact blk_drew HROW.out) (by omega)⟩) hcf h1c w.heap.size w (by first | exact HB.out | exact below_drew1 HB.out) hgb ?_; (case hd => first | (go_simp; done) | (go_simp; rfl)); (case hs => first | (go_simp; done) | (go_simp; rfl)); intro w5 hg5 hb5)
      have HROW5 : Aside0 (w5.heap[w.heap.size]? = some (.cells (rp_row x (m + q).toNat n).toArray 3 (0, 0))) := ⟨by
        have h : w5.heap[w.heap.size]? = some (Obj.cells (splice (rp_row x m.toNat n) m.toNat (List.replicate q (Value.int IntKind.i64 x))).toArray 3 (0, 0)) := hg5
        rw [rp_splice x m.toNat q n (by omega), show m.toNat + q = (m + q).toNat from by omega] at h
        exact h⟩
      have HB5 := Aside0.mk hb5
      have HQ := Aside0.mk hq
      have hq2 : ((min m.toNat (n - m.toNat) : Nat) : Int) = (q : Int) := by rw [hq]
      have hqb : (q : Int) ≤ 1000000 := by omega
      have hq0 : (0 : Int) ≤ (q : Int) := by omega
      clear hg5 hb5 hcl hcf h1c hs1 hs2 hq
      go_wp2
      go_roundg (q1 + 1 - q)
      case measure => have := HQ.out; have := HZ.out; omega
      case rel =>
        refine ⟨m + (q : Int), ?_, ?_, ?_, ?_, HROW5, HB5⟩
        · rw [← HQ.out]
          have hw : IntKind.i64.wrap (m + (q : Int)) = m + (q : Int) := by rw [i64_w]; unfold wrap64; omega
          first | exact congrArg _ hw | (rw [hw]; done) | go_num
        · exact Int.add_nonneg hm1 hq0
        · have h1 := HQ.out; have h2 := HZ.out; omega
        · exact ⟨by have h1 := HQ.out; have h2 := HZ.out; omega, by have h2 := HZ.out; omega⟩
theorem hp_repeat1 (A0 : Option Addr) (c0 : Nat) (x : Int) (a1 : Int) (r : List Int) (w : World) (hr0 : Kd.C (Kd.int .i64) w A0 1 [x]) (hc0 : 1 ≤ c0) (h : slices_Repeat_int_int.f [x] a1 = some r) :
    Calls Try.prog 46 #[.slice A0 1 c0, .int .i64 a1] w fun e w' => e = .returned (.slice (some ⟨w.heap.size, 0, none⟩) r.length r.length) ∧ Kd.R (Kd.int .i64) 3 w' w.heap.size (fun _ => True) (.slice (some ⟨w.heap.size, 0, none⟩) r.length r.length) r ∧ Below w.heap.size w w' := hp_repeat.calls A0 c0 [x] a1 r w hr0 hc0 h
def histogram_Diff.f (k : Nat) (l0 l1 : List Int) : Option (List S64 × Int) :=
  if (l0.length : Int) > 4096 then some ([], 9)
  else if (l1.length : Int) > 4096 then some ([], 9)
  else (hp_piece l0 l1 k 0 l0.length 0 l1.length (List.replicate l0.length (-1))).bind fun T => edits_Make.f T (l1.length : Int)
theorem hp_start (gw kb cap base A : Nat) (ok : Nat → Prop) (A0 : Option Addr) (c0 : Nat) (l0 : List Int) (A1 : Option Addr) (c1 : Nat) (l1 : List Int) (w0 : World) (hl0 : l0.length ≤ 100000) (hl1 : l1.length ≤ 100000) (hc0 : l0.length ≤ c0) (hc1 : l1.length ≤ c1) (hkb : w0.heap.size ≤ kb)
    (k : Nat) (T T' : List Int) (w : World) (hB : Below w0.heap.size w0 w) (hw : w.heap[gw]? = some (.cells #[.slice A0 l0.length c0, .slice A1 l1.length c1, .slice (some ⟨kb, 0, none⟩) l0.length cap] 75 (0, 0))) (hT : Kd.R (Kd.int .i64) 3 w base ok (.slice (some ⟨kb, 0, none⟩) l0.length cap) T) (hTl : T.length = l0.length)
      (hr0 : ∀ W_, Kept w W_ (fun k => k = kb) → Kd.C (Kd.int .i64) W_ A0 l0.length l0) (hr1 : ∀ W_, Kept w W_ (fun k => k = kb) → Kd.C (Kd.int .i64) W_ A1 l1.length l1)
      (h : hp_piece l0 l1 k 0 l0.length 0 l1.length T = some T') :
    Calls Try.prog 50 #[.pointer (some ⟨gw, 0, none⟩), .int .i64 0, .int .i64 (l0.length : Int), .int .i64 0, .int .i64 (l1.length : Int)] w fun e w' => e = .returned (.tuple #[]) ∧ w'.heap[gw]? = some (.cells #[.slice A0 l0.length c0, .slice A1 l1.length c1, .slice (some ⟨kb, 0, none⟩) l0.length cap] 75 (0, 0)) ∧ Kd.R (Kd.int .i64) 3 w' base ok (.slice (some ⟨kb, 0, none⟩) l0.length cap) T' ∧ T'.length = l0.length ∧ Kept w w' (fun k => k = kb) ∧ Below w0.heap.size w0 w' :=
  histogram_piece.calls gw kb cap base A ok A0 c0 l0 A1 c1 l1 w0 hl0 hl1 hc0 hc1 hkb k 0 l0.length 0 l1.length T T' w hB hw hT hTl hr0 hr1 (Nat.zero_le _) (Nat.le_refl _) (Nat.zero_le _) (Nat.le_refl _) h
theorem hp_make (A : Option Addr) (c0 m : Nat) (T : List Int) (hm : T.length = m) (a1 : Int) (r1 : List S64) (r2 : Int) (w : World) (hr0 : Kd.C (Kd.int .i64) w A m T) (hc0 : m ≤ c0) (h : edits_Make.f T a1 = some (r1, r2)) :
    Calls Try.prog 41 #[.slice A m c0, .int .i64 a1] w fun e w' => ∃ v0_ : Value, e = .returned (.tuple #[v0_, .int .i64 r2]) ∧ Kd.R k64 64 w' w.heap.size (fun _ => True) v0_ r1 ∧ Below w.heap.size w w' := by
  subst hm
  exact edits_Make.calls A c0 T a1 r1 r2 w hr0 hc0 h
set_option maxHeartbeats 4000000 in
set_option maxRecDepth 100000 in
theorem histogram_Diff.calls (k : Nat) (A0 : Option Addr) (c0 : Nat) (l0 : List Int) (A1 : Option Addr) (c1 : Nat) (l1 : List Int) (r1 : List S64) (r2 : Int) (w : World) (hr0 : Kd.C (Kd.int .i64) w A0 l0.length l0) (hc0 : l0.length ≤ c0) (hr1 : Kd.C (Kd.int .i64) w A1 l1.length l1) (hc1 : l1.length ≤ c1) (h : histogram_Diff.f k l0 l1 = some (r1, r2)) :
    Calls Try.prog 32 #[.slice A0 l0.length c0, .slice A1 l1.length c1] w fun e w' => ∃ v0_ : Value, e = .returned (.tuple #[v0_, .int .i64 r2]) ∧ Kd.R k64 64 w' w.heap.size (fun _ => True) v0_ r1 ∧ Below w.heap.size w w' := by
  have hun := Try.underlying75
  have HR0 := Aside0.mk hr0
  have HC0 := Aside0.mk hc0
  have HR1 := Aside0.mk hr1
  have HC1 := Aside0.mk hc1
  clear hr0 hc0 hr1 hc1
  unfold histogram_Diff.f at h
  by_cases q1 : (l0.length : Int) > 4096
  · rw [if_pos q1] at h
    simp only [Option.some.injEq, Prod.mk.injEq] at h
    obtain ⟨rfl, rfl⟩ := h
    have z0 : decide (4096 < (l0.length : Int)) = true := decide_eq_true q1
    have z1 : decide (4096 < l0.length) = true := decide_eq_true (by omega)
    clear q1
    go_enter Try.func32, Try.ntmps32
    go_wp2
    go_ret2
    exact ⟨_, rfl, Kd.R_nil _ _ _ _ _, Below.refl _ _⟩
  rw [if_neg q1] at h
  have z0 : decide (4096 < (l0.length : Int)) = false := decide_eq_false q1
  have z1 : decide (4096 < l0.length) = false := decide_eq_false (by omega)
  by_cases q2 : (l1.length : Int) > 4096
  · rw [if_pos q2] at h
    simp only [Option.some.injEq, Prod.mk.injEq] at h
    obtain ⟨rfl, rfl⟩ := h
    have z2 : decide (4096 < (l1.length : Int)) = true := decide_eq_true q2
    have z3 : decide (4096 < l1.length) = true := decide_eq_true (by omega)
    clear q1 q2
    go_enter Try.func32, Try.ntmps32
    go_wp2
    go_ret2
    exact ⟨_, rfl, Kd.R_nil _ _ _ _ _, Below.refl _ _⟩
  rw [if_neg q2] at h
  have z2 : decide (4096 < (l1.length : Int)) = false := decide_eq_false q2
  have z3 : decide (4096 < l1.length) = false := decide_eq_false (by omega)
  obtain ⟨T', hp, hm⟩ := Option.bind_eq_some_iff.mp h
  have HP := Aside0.mk hp
  have HM := Aside0.mk hm
  have HQ := Aside0.mk (show l0.length ≤ 100000 ∧ l1.length ≤ 100000 by omega)
  have HRP : Aside0 (slices_Repeat_int_int.f [-1] (l0.length : Int) = some (List.replicate l0.length (-1))) := ⟨by
    unfold slices_Repeat_int_int.f
    rw [if_pos (by simp; omega)]
    simp⟩
  have HB := Aside0.mk (Below.refl w.heap.size w)
  have HNE : Aside0 (∀ (W W' : World) (kb : Nat), w.heap.size ≤ kb → Below w.heap.size w W → Kept W W' (fun k => k = kb) → Kd.C (Kd.int .i64) W' A0 l0.length l0 ∧ Kd.C (Kd.int .i64) W' A1 l1.length l1) := ⟨fun W W' kb hk hb hkk => ⟨Kd.C_kept_came (Kd.heap_int .i64) HR0.out hb (fun k_ hs_ => by rw [hs_]; exact hk) W' hkk, Kd.C_kept_came (Kd.heap_int .i64) HR1.out hb (fun k_ hs_ => by rw [hs_]; exact hk) W' hkk⟩⟩
  clear h hp hm q1 q2
  go_enter Try.func32, Try.ntmps32
  go_wp2_with (first | ((with_reducible refine gate_dst (N := 17) rfl ?_); (try (refine gate_guard (by rfl) ?_; dsimp only)); refine Kd.R_lit (Kd.int .i64) _ 3 ?hg (N := 17) ?hd (xs := ([-1] : List Int)) (inner := [.int .i64 (-1)]) (ok := fun _ => True) (okp := fun _ => True) ?hr ?hp (fun _ hk => hk) trivial (Below.refl _ _) (Nat.le_refl _) (by simp) ?_; (case hd => rfl); (case hg => rfl); (case hr => first | (go_simp; done) | (go_simp; rfl)); (case hp => exact (Reps.one (show Kd.M (Kd.int .i64) _ _ _ (-1) [.int .i64 (-1)] from rfl) (Reps.none _ _))); intro v17 w17 ho17 hb17 hg_ hnew_; clear hg_ hnew_; obtain ⟨A17, c17, e17, hc17, hr17⟩ := Kd.R_reads ho17; subst e17; simp only [List.length_cons, List.length_nil, Nat.zero_add] at hr17 hc17 ⊢; have HR17 := Aside0.mk hr17; have HC17 := Aside0.mk hc17; have n0_ := Aside0.mk (HB.out.trans hb17); clear HB ho17 hb17 hc17 hr17; have HB := n0_; clear n0_) | (go_at_call 46; go_loud ( (with_reducible refine (hp_repeat1 A17 c17 (-1) (l0.length : Int) _ _ HR17.out HC17.out HRP.out).mono ?_); rintro e w20 ⟨rfl, ho20, hb20⟩; simp only [List.length_replicate] at ho20 ⊢; obtain ⟨kb, hkb⟩ : ∃ kb, kb = w17.heap.size := ⟨_, rfl⟩; rw [← hkb] at ho20 ⊢; have HKB := Aside0.mk (show w.heap.size ≤ kb from by rw [hkb]; exact HB.out.size); have n0_ := Aside0.mk (HB.out.trans (hb20.mono HB.out.size)); have HT := Aside0.mk (Kd.R_lower ho20 (base' := w.heap.size) HKB.out); clear HB hb20 ho20 hkb HR17 HC17 HRP; have HB := n0_; clear n0_)) | ((with_reducible refine gate_dst (N := 22) rfl ?_); refine box_event ?hg (N := 22) ?hd (cs := #[.slice A0 l0.length c0, .slice A1 l1.length c1, .slice (some ⟨kb, 0, none⟩) l0.length l0.length]) (t := 75) ?hr ?_; (case hd => rfl); (case hg => rfl); (case hr => first | (go_simp; done) | (go_simp; rfl)); intro gw hg w22 hbox hb; have n0_ := Aside0.mk (Kd.R_below HT.out hb); have n2_ := Aside0.mk (HB.out.trans (hb.mono HB.out.size)); have HW := Aside0.mk hbox; clear HT HB; have HT := n0_; have HB := n2_; clear n0_ n2_ hbox hb hg) | (go_at_call 50; (with_reducible refine (hp_start gw kb l0.length w.heap.size 0 _ A0 c0 l0 A1 c1 l1 w HQ.out.1 HQ.out.2 HC0.out HC1.out HKB.out k (List.replicate l0.length (-1)) T' _ HB.out HW.out HT.out List.length_replicate (fun W_ hk => (HNE.out _ W_ kb HKB.out HB.out hk).1) (fun W_ hk => (HNE.out _ W_ kb HKB.out HB.out hk).2) HP.out).mono ?_); rintro e w28 ⟨rfl, hw9, ht9, hl9, hk9, hb9⟩; clear HW HT HB; have HW := Aside0.mk hw9; have HB := Aside0.mk hb9; obtain ⟨A28, c28, e28, hc28, hr28⟩ := Kd.R_reads ht9; injection e28 with e1 e2 e3; subst e1 e3; rw [hl9] at hr28 hc28; have HR28 := Aside0.mk hr28; have HC28 := Aside0.mk hc28; have HL28 := Aside0.mk hl9; clear hw9 ht9 hk9 hb9 hl9 e2 hc28 hr28; have e2 : w28.cell? ⟨gw, 2, none⟩ = some (.slice (some ⟨kb, 0, none⟩) l0.length l0.length) := (blk_cell HW.out 2).trans rfl) | (go_at_call 41; (with_reducible refine (hp_make (some ⟨kb, 0, none⟩) _ l0.length T' HL28.out (l1.length : Int) r1 r2 _ HR28.out HC28.out HM.out).mono ?_); rintro e w35 ⟨v35, rfl, ho35, hb35⟩; have H35 := Aside0.mk (Kd.R_lower ho35 (base' := w.heap.size) HB.out.size); have n0_ := Aside0.mk (HB.out.trans (hb35.mono HB.out.size)); clear HB HW e2 ho35 hb35; have HB := n0_; clear n0_))
  go_ret2
  exact ⟨_, rfl, H35.out, HB.out⟩
end Go.Proofs.Ytdcldoembdifpaa.X
