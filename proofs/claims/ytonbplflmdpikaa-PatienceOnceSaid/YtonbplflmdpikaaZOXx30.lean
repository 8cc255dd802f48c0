import Derived.Test.YtonbplflmdpikaaZOXx0
import Derived.Test.YtonbplflmdpikaaZOXx4
import Derived.Test.YtonbplflmdpikaaZOXx6
import Derived.Test.YtonbplflmdpikaaZOXx14
import Derived.Test.YtonbplflmdpikaaZOXx15
import Derived.Test.YtonbplflmdpikaaZOXx22
import Derived.Test.YtonbplflmdpikaaZOXx28
import Derived.Deep.RegionHeld3
import Derived.Laws.CopyOwn
import Derived.Deep.OwnRows
namespace Go.Proofs.Ytonbplflmdpikaa.X
open Go.RowKit Go.Proofs.YtonbplflmdpikaaW.PrintWords Go.Proofs.YtonbplflmdpikaaW.PrintLast Go.Proofs.YtonbplflmdpikaaW.PrintMore
attribute [local go_sem] max2_int min2_int max_two min_two max_three min_three max_four min_four   -- for this text's walks alone
open Go.Proofs.YtonbplflmdpikaaW.HandWords
set_option linter.unusedVariables false
set_option linter.unusedSimpArgs false
def pp_front (x y : List Int) (b d : Nat) : Nat → Nat → Nat → List Int → Nat × Nat × List Int
  | 0, a, c, T => (a, c, T)
  | q + 1, a, c, T => if a < b ∧ c < d ∧ x.getD a 0 = y.getD c 0 then pp_front x y b d q (a + 1) (c + 1) (T.set a ((c : Nat) : Int)) else (a, c, T)
def pp_back (x y : List Int) (a c : Nat) : Nat → Nat → Nat → List Int → Nat × Nat × List Int
  | 0, b, d, T => (b, d, T)
  | q + 1, b, d, T => if a < b ∧ c < d ∧ x.getD (b - 1) 0 = y.getD (d - 1) 0 then pp_back x y a c q (b - 1) (d - 1) (T.set (b - 1) ((d - 1 : Nat) : Int)) else (b, d, T)
def pp_cut (x : List Int) (a b : Nat) : List Int := (x.take b).drop a
def pp_row (rc : Nat → Nat → Nat → Nat → List Int → Option (List Int)) (a c B D : Nat) : List S27 → Nat → Nat → List Int → Option (Nat × Nat × List Int)
  | [], u, v, T => some (u, v, T)
  | p :: ps, u, v, T =>
    if 0 ≤ p.f0 ∧ 0 ≤ p.f1 ∧ (u : Int) ≤ (a : Int) + p.f0 ∧ (v : Int) ≤ (c : Int) + p.f1 ∧ (a : Int) + p.f0 < (B : Int) ∧ (c : Int) + p.f1 < (D : Int) then
      (rc u (a + p.f0.toNat) v (c + p.f1.toNat) (T.set (a + p.f0.toNat) ((c : Int) + p.f1))).bind fun T2 => pp_row rc a c B D ps (a + p.f0.toNat + 1) (c + p.f1.toNat + 1) T2
    else none
def pp_rest (x y : List Int) (k : Nat) (rc : Nat → Nat → Nat → Nat → List Int → Option (List Int)) (a c : Nat) (s : Nat × Nat × List Int) : Option (List Int) :=
  if a = s.1 then some s.2.2
  else if c = s.2.1 then some s.2.2
  else (patience_Unique.f (pp_cut x a s.1) (pp_cut y c s.2.1)).bind fun u => (patience_Longest.f k u).bind fun row =>
    if row.length = 0 then patience_least.f k s.2.2 x y (a : Int) (s.1 : Int) (c : Int) (s.2.1 : Int)
    else if row.length ≤ 1000000 then (pp_row rc a c s.1 s.2.1 row a c s.2.2).bind fun q => rc q.1 s.1 q.2.1 s.2.1 q.2.2
    else none
def pp_piece (x y : List Int) : Nat → Nat → Nat → Nat → Nat → List Int → Option (List Int)
  | 0, _, _, _, _, _ => none
  | k + 1, a, b, c, d, T =>
    let s := pp_front x y b d (b - a) a c T
    pp_rest x y k (pp_piece x y k) s.1 s.2.1 (pp_back x y s.1 s.2.1 (b - s.1) b d s.2.2)
def pp_iff (b : Bool) (p : Prop) : Prop := b = true ↔ p
theorem pp_front_le (x y : List Int) (b d : Nat) : ∀ q a c T, a ≤ b → c ≤ d → a ≤ (pp_front x y b d q a c T).1 ∧ (pp_front x y b d q a c T).1 ≤ b ∧ c ≤ (pp_front x y b d q a c T).2.1 ∧ (pp_front x y b d q a c T).2.1 ≤ d ∧ (pp_front x y b d q a c T).2.2.length = T.length
  | 0, a, c, T, h1, h2 => ⟨Nat.le_refl _, h1, Nat.le_refl _, h2, rfl⟩
  | q + 1, a, c, T, h1, h2 => by
    rw [pp_front]
    by_cases h : a < b ∧ c < d ∧ x.getD a 0 = y.getD c 0
    · rw [if_pos h]
      have := pp_front_le x y b d q (a + 1) (c + 1) (T.set a ((c : Nat) : Int)) (by omega) (by omega)
      rw [List.length_set] at this
      omega
    · rw [if_neg h]; exact ⟨Nat.le_refl _, h1, Nat.le_refl _, h2, rfl⟩
structure PB (gx gy gz gp kb cap : Nat) (A0 : Option Addr) (c0 n0 : Nat) (A1 : Option Addr) (c1 n1 : Nat) (W : World) : Prop where
  x : W.heap[gx]? = some (.cells #[.slice A0 n0 c0] 22 (0, 0))
  y : W.heap[gy]? = some (.cells #[.slice A1 n1 c1] 22 (0, 0))
  k : W.heap[gz]? = some (.cells #[.slice (some ⟨kb, 0, none⟩) n0 cap] 22 (0, 0))
  p : W.heap[gp]? = some (.cells #[.func (.func 25) #[] #[.pointer (some ⟨gx, 0, none⟩), .pointer (some ⟨gy, 0, none⟩), .pointer (some ⟨gz, 0, none⟩), .pointer (some ⟨gp, 0, none⟩)]] 57 (0, 0))
  nx : gx ≠ kb
  ny : gy ≠ kb
  nk : gz ≠ kb
  np : gp ≠ kb
section
variable {gx gy gz gp kb cap : Nat} {A0 : Option Addr} {c0 n0 : Nat} {A1 : Option Addr} {c1 n1 : Nat} {W : World}
theorem PB.drew (h : PB gx gy gz gp kb cap A0 c0 n0 A1 c1 n1 W) : PB gx gy gz gp kb cap A0 c0 n0 A1 c1 n1 W.drew := ⟨blk_drew h.x, blk_drew h.y, blk_drew h.k, blk_drew h.p, h.nx, h.ny, h.nk, h.np⟩
theorem PB.drewN (h : PB gx gy gz gp kb cap A0 c0 n0 A1 c1 n1 W) (n : Nat) : PB gx gy gz gp kb cap A0 c0 n0 A1 c1 n1 (W.drewN n) := ⟨blk_drewN h.x n, blk_drewN h.y n, blk_drewN h.k n, blk_drewN h.p n, h.nx, h.ny, h.nk, h.np⟩
theorem PB.set (h : PB gx gy gz gp kb cap A0 c0 n0 A1 c1 n1 W) (i : Nat) (u : Value) : PB gx gy gz gp kb cap A0 c0 n0 A1 c1 n1 (W.setCell ⟨kb, i, none⟩ u) := ⟨blk_far h.x h.nx u, blk_far h.y h.ny u, blk_far h.k h.nk u, blk_far h.p h.np u, h.nx, h.ny, h.nk, h.np⟩
theorem PB.kept {W' : World} (h : PB gx gy gz gp kb cap A0 c0 n0 A1 c1 n1 W) (hk : Kept W W' (fun k => k = kb)) : PB gx gy gz gp kb cap A0 c0 n0 A1 c1 n1 W' := ⟨blk_kept h.x hk h.nx, blk_kept h.y hk h.ny, blk_kept h.k hk h.nk, blk_kept h.p hk h.np, h.nx, h.ny, h.nk, h.np⟩
theorem PB.setF (h : PB gx gy gz gp kb cap A0 c0 n0 A1 c1 n1 W) {g : Nat} (h1 : gx ≠ g) (h2 : gy ≠ g) (h3 : gz ≠ g) (h4 : gp ≠ g) (i : Nat) (u : Value) : PB gx gy gz gp kb cap A0 c0 n0 A1 c1 n1 (W.setCell ⟨g, i, none⟩ u) := ⟨blk_far h.x h1 u, blk_far h.y h2 u, blk_far h.k h3 u, blk_far h.p h4 u, h.nx, h.ny, h.nk, h.np⟩
theorem PB.below {W' : World} (h : PB gx gy gz gp kb cap A0 c0 n0 A1 c1 n1 W) (hb : Below W.heap.size W W') : PB gx gy gz gp kb cap A0 c0 n0 A1 c1 n1 W' := ⟨blk_below h.x hb, blk_below h.y hb, blk_below h.k hb, blk_below h.p hb, h.nx, h.ny, h.nk, h.np⟩
end
set_option maxHeartbeats 4000000 in
set_option maxRecDepth 100000 in
theorem patience_piece.calls (gx gy gz gp kb cap base : Nat) (ok : Nat → Prop) (A0 : Option Addr) (c0 : Nat) (l0 : List Int) (A1 : Option Addr) (c1 : Nat) (l1 : List Int) (w0 : World) (hl0 : l0.length ≤ 100000) (hl1 : l1.length ≤ 100000) (hc0 : l0.length ≤ c0) (hc1 : l1.length ≤ c1) (hkb : w0.heap.size ≤ kb) :
    ∀ (k : Nat) (a b c d : Nat) (T T' : List Int) (w : World) (hB : Below w0.heap.size w0 w) (hw : PB gx gy gz gp kb cap A0 c0 l0.length A1 c1 l1.length w) (hT : Kd.R (Kd.int .i64) 3 w base ok (.slice (some ⟨kb, 0, none⟩) l0.length cap) T) (hTl : T.length = l0.length)
      (hr0 : ∀ W_, Kept w W_ (fun k => k = kb) → Kd.C (Kd.int .i64) W_ A0 l0.length l0) (hr1 : ∀ W_, Kept w W_ (fun k => k = kb) → Kd.C (Kd.int .i64) W_ A1 l1.length l1)
      (h1 : a ≤ b) (h2 : b ≤ l0.length) (h3 : c ≤ d) (h4 : d ≤ l1.length) (h : pp_piece l0 l1 k a b c d T = some T'),
    Calls Try.prog 25 #[.int .i64 (a : Int), .int .i64 (b : Int), .int .i64 (c : Int), .int .i64 (d : Int), .pointer (some ⟨gx, 0, none⟩), .pointer (some ⟨gy, 0, none⟩), .pointer (some ⟨gz, 0, none⟩), .pointer (some ⟨gp, 0, none⟩)] w fun e w' => e = .returned (.tuple #[]) ∧ PB gx gy gz gp kb cap A0 c0 l0.length A1 c1 l1.length w' ∧ Kd.R (Kd.int .i64) 3 w' base ok (.slice (some ⟨kb, 0, none⟩) l0.length cap) T' ∧ T'.length = l0.length ∧ Kept w w' (fun k => k = kb) ∧ Below w0.heap.size w0 w' := by
  intro k
  induction k with
  | zero => intro a b c d T T' w _ _ _ _ _ _ _ _ _ _ h; cases h
  | succ k ih =>
    intro a b c d T T' w hB hw hT hTl hr0 hr1 h1 h2 h3 h4 h
    have IH : Aside0 (∀ (ya yb yc yd : Int) (a b c d : Nat) (T T' : List Int) (w : World), ya = (a : Int) → yb = (b : Int) → yc = (c : Int) → yd = (d : Int) → Below w0.heap.size w0 w → PB gx gy gz gp kb cap A0 c0 l0.length A1 c1 l1.length w → Kd.R (Kd.int .i64) 3 w base ok (.slice (some ⟨kb, 0, none⟩) l0.length cap) T → T.length = l0.length → (∀ W_, Kept w W_ (fun k => k = kb) → Kd.C (Kd.int .i64) W_ A0 l0.length l0) → (∀ W_, Kept w W_ (fun k => k = kb) → Kd.C (Kd.int .i64) W_ A1 l1.length l1) → a ≤ b → b ≤ l0.length → c ≤ d → d ≤ l1.length → pp_piece l0 l1 k a b c d T = some T' →
      Calls Try.prog 25 #[.int .i64 ya, .int .i64 yb, .int .i64 yc, .int .i64 yd, .pointer (some ⟨gx, 0, none⟩), .pointer (some ⟨gy, 0, none⟩), .pointer (some ⟨gz, 0, none⟩), .pointer (some ⟨gp, 0, none⟩)] w fun e w' => e = .returned (.tuple #[]) ∧ PB gx gy gz gp kb cap A0 c0 l0.length A1 c1 l1.length w' ∧ Kd.R (Kd.int .i64) 3 w' base ok (.slice (some ⟨kb, 0, none⟩) l0.length cap) T' ∧ T'.length = l0.length ∧ Kept w w' (fun k => k = kb) ∧ Below w0.heap.size w0 w') := ⟨by
      intro ya yb yc yd a b c d T T' w e1 e2 e3 e4
      subst e1 e2 e3 e4
      exact ih a b c d T T' w⟩
    have HW := Aside0.mk hw
    have HT := Aside0.mk hT
    have HTL := Aside0.mk hTl
    have HB := Aside0.mk hB
    have HKB := Aside0.mk hkb
    have HR0 := Aside0.mk hr0
    have HR1 := Aside0.mk hr1
    have HC0 := Aside0.mk hc0
    have HC1 := Aside0.mk hc1
    have HK := Aside0.mk (Kept.refl w (fun k => k = kb))
    have H := Aside0.mk h
    clear ih hw hT hTl hB hkb hr0 hr1 hc0 hc1 h
    obtain ⟨za, hza⟩ : ∃ za : Int, za = (a : Int) := ⟨_, rfl⟩
    obtain ⟨zb, hzb⟩ : ∃ zb : Int, zb = (b : Int) := ⟨_, rfl⟩
    obtain ⟨zc, hzc⟩ : ∃ zc : Int, zc = (c : Int) := ⟨_, rfl⟩
    obtain ⟨zd, hzd⟩ : ∃ zd : Int, zd = (d : Int) := ⟨_, rfl⟩
    rw [← hza, ← hzb, ← hzc, ← hzd]
    have HZA := Aside0.mk hza
    have HZB := Aside0.mk hzb
    have HZC := Aside0.mk hzc
    have HZD := Aside0.mk hzd
    have b1 : 0 ≤ za := by omega
    have b2 : za ≤ 100000 := by omega
    have b3 : 0 ≤ zc := by omega
    have b4 : zc ≤ 100000 := by omega
    have b5 : 0 ≤ zb := by omega
    have b6 : zb ≤ 100000 := by omega
    have b7 : 0 ≤ zd := by omega
    have b8 : zd ≤ 100000 := by omega
    clear hza hzb hzc hzd
    obtain ⟨SF, hSF⟩ : ∃ SF, pp_front l0 l1 b d (b - a) a c T = SF := ⟨_, rfl⟩
    have HS := Aside0.mk hSF
    have HH : Aside0 (pp_rest l0 l1 k (pp_piece l0 l1 k) SF.1 SF.2.1 (pp_back l0 l1 SF.1 SF.2.1 (b - SF.1) b d SF.2.2) = some T') := ⟨by
      have h := H.out
      rw [pp_piece] at h
      simp only [hSF] at h
      exact h⟩
    clear H
    have HSL := Aside0.mk (hSF ▸ pp_front_le l0 l1 b d (b - a) a c T h1 h3)
    clear hSF
    go_enter Try.func25, Try.ntmps25
    have HS0 : Aside0 (pp_front l0 l1 b d (b - a) za.toNat zc.toNat T = SF) := ⟨by rw [show za.toNat = a from by have := HZA.out; omega, show zc.toNat = c from by have := HZC.out; omega]; exact HS.out⟩
    have HQ0 : Aside0 (za.toNat + (b - a) = b) := ⟨by have := HZA.out; omega⟩
    have HC00 : Aside0 (zc.toNat ≤ d) := ⟨by have := HZC.out; omega⟩
    clear HS
    go_wp2
    go_loopg [0, 2] (b - a) (fun q v0 v2 w' => ∃ (i j : Int) (U : List Int), v0 = .int .i64 i ∧ v2 = .int .i64 j ∧ 0 ≤ i ∧ i ≤ 100000 ∧ 0 ≤ j ∧ j ≤ 100000 ∧ Aside0 (i.toNat + q = b) ∧ Aside0 (j.toNat ≤ d) ∧ Aside0 (pp_front l0 l1 b d q i.toNat j.toNat U = SF) ∧ Aside0 (U.length = l0.length) ∧ Aside0 (PB gx gy gz gp kb cap A0 c0 l0.length A1 c1 l1.length w') ∧ Aside0 (Kd.R (Kd.int .i64) 3 w' base ok (.slice (some ⟨kb, 0, none⟩) l0.length cap) U) ∧ Aside0 (Kept w w' (fun k => k = kb)) ∧ Aside0 (Below w0.heap.size w0 w'))
    case atStart => exact ⟨za, zc, T, rfl, rfl, b1, b2, b3, b4, HQ0, HC00, HS0, HTL, HW, HT, HK, HB⟩
    case round =>
      clear HW HT HK HB HS0 HQ0 HC00 HTL
      obtain ⟨i, j, U, rfl, rfl, hi0, hi1, hj0, hj1, HQ, HCN, HS, HUL, HW, HT, HK, HB⟩ := hrel
      have e0 : wr.cell? ⟨gx, 0, none⟩ = some (.slice A0 l0.length c0) := (blk_cell HW.out.x 0).trans rfl
      have e1 : wr.cell? ⟨gy, 0, none⟩ = some (.slice A1 l1.length c1) := (blk_cell HW.out.y 0).trans rfl
      go_upto_region 0 with (fail)
      go_cut [37] (fun v37 wc => ∃ (bb : Bool), v37 = .bool bb ∧ Aside0 (pp_iff bb (i.toNat < b ∧ j.toNat < d ∧ l0.getD i.toNat 0 = l1.getD j.toNat 0)) ∧ Aside0 (PB gx gy gz gp kb cap A0 c0 l0.length A1 c1 l1.length wc) ∧ Aside0 (Kd.R (Kd.int .i64) 3 wc base ok (.slice (some ⟨kb, 0, none⟩) l0.length cap) U) ∧ Aside0 (Kept w wc (fun k => k = kb)) ∧ Aside0 (Below w0.heap.size w0 wc))
      case first =>
        clear HS
        have p5 := eq_true hi0
        have p6 := eq_true hj0
        by_cases ci : i < zb
        · have cib : decide (i < zb) = true := decide_eq_true ci
          by_cases cj : j < zd
          · have cjb : decide (j < zd) = true := decide_eq_true cj
            have ci2 : i < (l0.length : Int) := by have := HZB.out; omega
            have cj2 : j < (l1.length : Int) := by have := HZD.out; omega
            have p7 := eq_true ci2
            have p8 := eq_true cj2
            obtain ⟨ad3, ea3, hx3⟩ := Kd.at_int (HR1.out wr HK.out) j hj0 cj2
            cases ea3
            obtain ⟨ad2, ea2, hx2⟩ := Kd.at_int (HR0.out wr HK.out) i hi0 ci2
            cases ea2
            obtain ⟨bb, hbb⟩ : ∃ b : Bool, ((rd l0 i) == (rd l1 j)) = b := ⟨_, rfl⟩
            have HBB : Aside0 (pp_iff bb (i.toNat < b ∧ j.toNat < d ∧ l0.getD i.toNat 0 = l1.getD j.toNat 0)) := ⟨by
              unfold pp_iff
              rw [← hbb, beq_iff_eq]
              unfold rd
              have := HZB.out; have := HZD.out
              constructor
              · intro h; exact ⟨by omega, by omega, h⟩
              · rintro ⟨_, _, h⟩; exact h⟩
            clear ci cj ci2 cj2
            go_wp2
            repeat (go_quiet (fail); try go_wp2)
            go_meet
            case rel => exact ⟨bb, (by first | rfl | (simp; done) | (simp [*]; done)), HBB, ⟨HW.out.drewN _⟩, ⟨Kd.R_drewN HT.out _⟩, ⟨Kept.drewN HK.out _⟩, ⟨pw_below_drewN HB.out _⟩⟩
          · have cjb : decide (j < zd) = false := decide_eq_false cj
            have HBB : Aside0 (pp_iff false (i.toNat < b ∧ j.toNat < d ∧ l0.getD i.toNat 0 = l1.getD j.toNat 0)) := ⟨by
              unfold pp_iff
              have := HZD.out
              constructor
              · intro h; cases h
              · rintro ⟨_, h, _⟩; exfalso; omega⟩
            clear ci cj
            go_wp2
            repeat (go_quiet (fail); try go_wp2)
            go_meet
            case rel => exact ⟨false, (by first | rfl | (simp; done) | (simp [*]; done)), HBB, ⟨HW.out.drewN _⟩, ⟨Kd.R_drewN HT.out _⟩, ⟨Kept.drewN HK.out _⟩, ⟨pw_below_drewN HB.out _⟩⟩
        · have cib : decide (i < zb) = false := decide_eq_false ci
          have HBB : Aside0 (pp_iff false (i.toNat < b ∧ j.toNat < d ∧ l0.getD i.toNat 0 = l1.getD j.toNat 0)) := ⟨by
            unfold pp_iff
            have := HZB.out
            constructor
            · intro h; cases h
            · rintro ⟨h, _⟩; exfalso; omega⟩
          clear ci
          go_wp2
          repeat (go_quiet (fail); try go_wp2)
          go_meet
          case rel => exact ⟨false, (by first | rfl | (simp; done) | (simp [*]; done)), HBB, ⟨HW.out.drewN _⟩, ⟨Kd.R_drewN HT.out _⟩, ⟨Kept.drewN HK.out _⟩, ⟨pw_below_drewN HB.out _⟩⟩
      case rest =>
        clear HW HT HK HB e0 e1
        obtain ⟨bb, rfl, HBB, HW, HT, HK, HB⟩ := hcut
        cases bb with
        | true =>
          have HC := Aside0.mk (HBB.out.1 rfl)
          have e2 : wc.cell? ⟨gz, 0, none⟩ = some (.slice (some ⟨kb, 0, none⟩) l0.length cap) := (blk_cell HW.out.k 0).trans rfl
          have hp1 : i < (l0.length : Int) := by have := HC.out; omega
          have hp2 : i.toNat < U.length := by have := HUL.out; omega
          have p1 := eq_true hi0
          have p2 := eq_true hp1
          obtain ⟨f3, f4⟩ := R_cell_nat (by have h := HT.out; have e := HUL.out; rw [← e] at h; exact h) i.toNat hp2
          go_wp2
          go_roundg (b - i.toNat - 1)
          case measure => have := HC.out; have := HQ.out; omega
          case rel =>
            refine ⟨i + 1, j + 1, U.set i.toNat j, by go_num, by go_num, by omega, by have := HC.out; omega, by omega, by have := HC.out; omega, ⟨by have := HC.out; omega⟩, ⟨by have := HC.out; omega⟩, ⟨?_⟩, ⟨by rw [List.length_set]; exact HUL.out⟩, ⟨HW.out.set _ _⟩, ⟨R_store_nat HT.out _ _⟩, ⟨Kept.setCell HK.out (.inl rfl) _⟩, ⟨below_set HB.out HKB.out⟩⟩
            have h := HS.out
            obtain ⟨q', hq1, hq2⟩ : ∃ q', gk = q' + 1 ∧ b - i.toNat - 1 = q' := ⟨b - i.toNat - 1, by have := HC.out; have := HQ.out; omega, rfl⟩
            rw [hq2]
            rw [hq1, pp_front, if_pos HC.out] at h
            rw [show (i + 1).toNat = i.toNat + 1 from by omega, show (j + 1).toNat = j.toNat + 1 from by omega, show j = ((j.toNat : Nat) : Int) from by omega]
            exact h
        | false =>
          have hne : ¬ (i.toNat < b ∧ j.toNat < d ∧ l0.getD i.toNat 0 = l1.getD j.toNat 0) := fun h => by have := HBB.out.2 h; cases this
          have hsf : SF = (i.toNat, j.toNat, U) := by
            have h := HS.out
            cases gk with
            | zero => exact h.symm
            | succ q' => rw [pp_front, if_neg hne] at h; exact h.symm
          have HH2 : Aside0 (pp_rest l0 l1 k (pp_piece l0 l1 k) i.toNat j.toNat (pp_back l0 l1 i.toNat j.toNat (b - i.toNat) b d U) = some T') := ⟨by
            have h := HH.out
            rw [hsf] at h
            exact h⟩
          obtain ⟨SB, hSB⟩ : ∃ SB, pp_back l0 l1 i.toNat j.toNat (b - i.toNat) b d U = SB := ⟨_, rfl⟩
          rw [hSB] at HH2
          have HSB : Aside0 (pp_back l0 l1 i.toNat j.toNat (b - i.toNat) zb.toNat zd.toNat U = SB) := ⟨by rw [show zb.toNat = b from by have := HZB.out; omega, show zd.toNat = d from by have := HZD.out; omega]; exact hSB⟩
          have HQ2 : Aside0 (i.toNat + (b - i.toNat) = zb.toNat ∧ j.toNat ≤ zd.toNat ∧ zb.toNat ≤ b ∧ zd.toNat ≤ d) := ⟨by have := HQ.out; have := HCN.out; have := HZB.out; have := HZD.out; omega⟩
          clear HBB hne HS HH HSL hsf hSB HQ HCN
          go_wp2
          go_loopg [1, 3] (b - i.toNat) (fun q v1 v3 w' => ∃ (yb yd : Int) (U2 : List Int), v1 = .int .i64 yb ∧ v3 = .int .i64 yd ∧ 0 ≤ yb ∧ yb ≤ 100000 ∧ 0 ≤ yd ∧ yd ≤ 100000 ∧ Aside0 (i.toNat + q = yb.toNat ∧ j.toNat ≤ yd.toNat ∧ yb.toNat ≤ b ∧ yd.toNat ≤ d) ∧ Aside0 (U2.length = l0.length) ∧ Aside0 (pp_back l0 l1 i.toNat j.toNat q yb.toNat yd.toNat U2 = SB) ∧ Aside0 (PB gx gy gz gp kb cap A0 c0 l0.length A1 c1 l1.length w') ∧ Aside0 (Kd.R (Kd.int .i64) 3 w' base ok (.slice (some ⟨kb, 0, none⟩) l0.length cap) U2) ∧ Aside0 (Kept w w' (fun k => k = kb)) ∧ Aside0 (Below w0.heap.size w0 w'))
          case atStart => exact ⟨zb, zd, U, rfl, rfl, b5, b6, b7, b8, HQ2, HUL, HSB, HW, HT, HK, HB⟩
          case round =>
            clear HW HT HK HB HSB HQ2 HUL
            obtain ⟨yb, yd, U2, rfl, rfl, y1, y2, y3, y4, HQ, HUL, HS, HW, HT, HK, HB⟩ := hrel
            have e0 : wr.cell? ⟨gx, 0, none⟩ = some (.slice A0 l0.length c0) := (blk_cell HW.out.x 0).trans rfl
            have e1 : wr.cell? ⟨gy, 0, none⟩ = some (.slice A1 l1.length c1) := (blk_cell HW.out.y 0).trans rfl
            obtain ⟨pb, hpb⟩ : ∃ pb, yb - 1 = pb := ⟨_, rfl⟩
            obtain ⟨pd, hpd⟩ : ∃ pd, yd - 1 = pd := ⟨_, rfl⟩
            have hbw : wrap64 (yb - 1) = pb := by rw [← hpb]; unfold wrap64; omega
            have hdw : wrap64 (yd - 1) = pd := by rw [← hpd]; unfold wrap64; omega
            have hbw2 := (i64_w _).trans hbw
            have hdw2 := (i64_w _).trans hdw
            have HPB := Aside0.mk hpb
            have HPD := Aside0.mk hpd
            go_upto_region 3 with (fail)
            go_cut [66] (fun v66 wc => ∃ (bb : Bool), v66 = .bool bb ∧ Aside0 (pp_iff bb (i.toNat < yb.toNat ∧ j.toNat < yd.toNat ∧ l0.getD (yb.toNat - 1) 0 = l1.getD (yd.toNat - 1) 0)) ∧ Aside0 (PB gx gy gz gp kb cap A0 c0 l0.length A1 c1 l1.length wc) ∧ Aside0 (Kd.R (Kd.int .i64) 3 wc base ok (.slice (some ⟨kb, 0, none⟩) l0.length cap) U2) ∧ Aside0 (Kept w wc (fun k => k = kb)) ∧ Aside0 (Below w0.heap.size w0 wc))
            case first =>
              clear HS
              by_cases ci : i < yb
              · have cib : decide (i < yb) = true := decide_eq_true ci
                by_cases cj : j < yd
                · have cjb : decide (j < yd) = true := decide_eq_true cj
                  have i20 : 0 ≤ pb := by omega
                  have j20 : 0 ≤ pd := by omega
                  have ci2 : pb < (l0.length : Int) := by have := HQ.out; omega
                  have cj2 : pd < (l1.length : Int) := by have := HQ.out; omega
                  have p5 := eq_true i20
                  have p6 := eq_true j20
                  have p7 := eq_true ci2
                  have p8 := eq_true cj2
                  obtain ⟨ad3, ea3, hx3⟩ := Kd.at_int (HR1.out wr HK.out) pd j20 cj2
                  cases ea3
                  obtain ⟨ad2, ea2, hx2⟩ := Kd.at_int (HR0.out wr HK.out) pb i20 ci2
                  cases ea2
                  obtain ⟨bb, hbb⟩ : ∃ b : Bool, ((rd l0 pb) == (rd l1 pd)) = b := ⟨_, rfl⟩
                  have HBB : Aside0 (pp_iff bb (i.toNat < yb.toNat ∧ j.toNat < yd.toNat ∧ l0.getD (yb.toNat - 1) 0 = l1.getD (yd.toNat - 1) 0)) := ⟨by
                    unfold pp_iff
                    rw [← hbb, beq_iff_eq]
                    unfold rd
                    rw [show pb.toNat = yb.toNat - 1 from by omega, show pd.toNat = yd.toNat - 1 from by omega]
                    constructor
                    · intro h; exact ⟨by omega, by omega, h⟩
                    · rintro ⟨_, _, h⟩; exact h⟩
                  clear ci cj ci2 cj2
                  go_wp2
                  repeat (go_quiet (fail); try go_wp2)
                  go_meet
                  case rel => exact ⟨bb, (by first | rfl | (simp; done) | (simp [*]; done)), HBB, ⟨HW.out.drewN _⟩, ⟨Kd.R_drewN HT.out _⟩, ⟨Kept.drewN HK.out _⟩, ⟨pw_below_drewN HB.out _⟩⟩
                · have cjb : decide (j < yd) = false := decide_eq_false cj
                  have HBB : Aside0 (pp_iff false (i.toNat < yb.toNat ∧ j.toNat < yd.toNat ∧ l0.getD (yb.toNat - 1) 0 = l1.getD (yd.toNat - 1) 0)) := ⟨by
                    unfold pp_iff
                    constructor
                    · intro h; cases h
                    · rintro ⟨_, h, _⟩; exfalso; omega⟩
                  clear ci cj
                  go_wp2
                  repeat (go_quiet (fail); try go_wp2)
                  go_meet
                  case rel => exact ⟨false, (by first | rfl | (simp; done) | (simp [*]; done)), HBB, ⟨HW.out.drewN _⟩, ⟨Kd.R_drewN HT.out _⟩, ⟨Kept.drewN HK.out _⟩, ⟨pw_below_drewN HB.out _⟩⟩
              · have cib : decide (i < yb) = false := decide_eq_false ci
                have HBB : Aside0 (pp_iff false (i.toNat < yb.toNat ∧ j.toNat < yd.toNat ∧ l0.getD (yb.toNat - 1) 0 = l1.getD (yd.toNat - 1) 0)) := ⟨by
                  unfold pp_iff
                  constructor
                  · intro h; cases h
                  · rintro ⟨h, _⟩; exfalso; omega⟩
                clear ci
                go_wp2
                repeat (go_quiet (fail); try go_wp2)
                go_meet
                case rel => exact ⟨false, (by first | rfl | (simp; done) | (simp [*]; done)), HBB, ⟨HW.out.drewN _⟩, ⟨Kd.R_drewN HT.out _⟩, ⟨Kept.drewN HK.out _⟩, ⟨pw_below_drewN HB.out _⟩⟩
            case rest =>
              clear HW HT HK HB e0 e1
              obtain ⟨bb, rfl, HBB, HW, HT, HK, HB⟩ := hcut
              cases bb with
              | true =>
                have HC := Aside0.mk (HBB.out.1 rfl)
                have e2 : wc.cell? ⟨gz, 0, none⟩ = some (.slice (some ⟨kb, 0, none⟩) l0.length cap) := (blk_cell HW.out.k 0).trans rfl
                have hp0 : 0 ≤ pb := by have := HC.out; omega
                have hp1 : pb < (l0.length : Int) := by have := HQ.out; omega
                have hp2 : pb.toNat < U2.length := by have := HUL.out; omega
                have p1 := eq_true hp0
                have p2 := eq_true hp1
                obtain ⟨f3, f4⟩ := R_cell_nat (by have h := HT.out; have e := HUL.out; rw [← e] at h; exact h) pb.toNat hp2
                go_wp2
                clear hbw hdw hbw2 hdw2
                go_roundg (yb.toNat - 1 - i.toNat)
                case measure => have := HC.out; have := HQ.out; omega
                case rel =>
                  refine ⟨pb, pd, U2.set pb.toNat pd, rfl, rfl, by omega, by omega, by have := HC.out; omega, by omega, ⟨by have := HC.out; have := HQ.out; omega⟩, ⟨by rw [List.length_set]; exact HUL.out⟩, ⟨?_⟩, ⟨HW.out.set _ _⟩, ⟨R_store_nat HT.out _ _⟩, ⟨Kept.setCell HK.out (.inl rfl) _⟩, ⟨below_set HB.out HKB.out⟩⟩
                  have h := HS.out
                  obtain ⟨q', hq1, hq2⟩ : ∃ q', gk = q' + 1 ∧ yb.toNat - 1 - i.toNat = q' := ⟨gk - 1, by have := HC.out; have := HQ.out; omega, by have := HC.out; have := HQ.out; omega⟩
                  rw [hq2]
                  rw [hq1, pp_back, if_pos HC.out] at h
                  have hd1 : 0 < yd.toNat := by have := HC.out; omega
                  rw [show pb.toNat = yb.toNat - 1 from by omega, show pd.toNat = yd.toNat - 1 from by omega, show pd = ((yd.toNat - 1 : Nat) : Int) from by omega]
                  exact h
              | false =>
                have hne : ¬ (i.toNat < yb.toNat ∧ j.toNat < yd.toNat ∧ l0.getD (yb.toNat - 1) 0 = l1.getD (yd.toNat - 1) 0) := fun h => by have := HBB.out.2 h; cases this
                have hsb : SB = (yb.toNat, yd.toNat, U2) := by
                  have h := HS.out
                  cases gk with
                  | zero => exact h.symm
                  | succ q' => rw [pp_back, if_neg hne] at h; exact h.symm
                clear HBB hne HS hbw hdw hbw2 hdw2 hpb hpd HPB HPD
                have hh := HH2.out
                rw [hsb] at hh
                unfold pp_rest at hh
                dsimp only at hh
                clear HH2 hsb
                by_cases ca : i = yb
                · have cab : (i == yb) = true := beq_iff_eq.mpr ca
                  rw [if_pos (show i.toNat = yb.toNat from by rw [ca])] at hh
                  have HTE := Aside0.mk (Option.some.inj hh)
                  clear hh ca
                  go_wp2
                  refine bodyPost_ret (results_none rfl _ _ _) rfl ?_
                  exact ⟨rfl, HW.out, by rw [← HTE.out]; exact HT.out, by rw [← HTE.out]; exact HUL.out, HK.out, HB.out⟩
                · have cab : (i == yb) = false := beq_eq_false_iff_ne.mpr ca
                  rw [if_neg (show ¬ i.toNat = yb.toNat from by omega)] at hh
                  by_cases cc : j = yd
                  · have ccb : (j == yd) = true := beq_iff_eq.mpr cc
                    rw [if_pos (show j.toNat = yd.toNat from by rw [cc])] at hh
                    have HTE := Aside0.mk (Option.some.inj hh)
                    clear hh ca cc
                    go_wp2
                    refine bodyPost_ret (results_none rfl _ _ _) rfl ?_
                    exact ⟨rfl, HW.out, by rw [← HTE.out]; exact HT.out, by rw [← HTE.out]; exact HUL.out, HK.out, HB.out⟩
                  · have ccb : (j == yd) = false := beq_eq_false_iff_ne.mpr cc
                    rw [if_neg (show ¬ j.toNat = yd.toNat from by omega)] at hh
                    -- the row
                    obtain ⟨X, hX⟩ : ∃ X, pp_cut l0 i.toNat yb.toNat = X := ⟨_, rfl⟩
                    obtain ⟨Y, hY⟩ : ∃ Y, pp_cut l1 j.toNat yd.toNat = Y := ⟨_, rfl⟩
                    rw [hX, hY] at hh
                    obtain ⟨us, hus, hh⟩ := Option.bind_eq_some_iff.mp hh
                    obtain ⟨row, hrow, hh⟩ := Option.bind_eq_some_iff.mp hh
                    have HUS := Aside0.mk hus
                    have HROW := Aside0.mk hrow
                    have HH3 := Aside0.mk hh
                    clear hus hrow hh
                    have hXe : X = ((l0.take yb.toNat).drop i.toNat) := hX.symm
                    have hYe : Y = ((l1.take yd.toNat).drop j.toNat) := hY.symm
                    clear hX hY
                    have m1 : i ≤ yb := by have := HQ.out; omega
                    have m2 : yb ≤ (l0.length : Int) := by have := HQ.out; omega
                    have m3 : j ≤ yd := by have := HQ.out; omega
                    have m4 : yd ≤ (l1.length : Int) := by have := HQ.out; omega
                    obtain ⟨q1, hq1, hqs1⟩ : ∃ i, Try.prog.info? 3 = some i ∧ i.size = 1 := ⟨_, rfl, rfl⟩
                    obtain ⟨B1, hcut1, hA1, hC1⟩ := print_mid_of (P := Try.prog) (Value.int .i64) 0 22 3 .i64 .i64 Try.underlying22 hq1 hqs1 A0 c0 l0 i yb hi0 m1 m2 HC0.out
                    obtain ⟨B2, hcut2, hA2, hC2⟩ := print_mid_of (P := Try.prog) (Value.int .i64) 0 22 3 .i64 .i64 Try.underlying22 hq1 hqs1 A1 c1 l1 j yd hj0 m3 m4 HC1.out
                    rw [← hXe] at hcut1 hA1 hC1
                    rw [← hYe] at hcut2 hA2 hC2
                    have HD1 := Aside0.mk hC1
                    have HD2 := Aside0.mk hC2
                    have HE1 : Aside0 (∀ W_, Kept w W_ (fun k => k = kb) → Kd.C (Kd.int .i64) W_ B1 X.length X) := ⟨fun W_ hk => Kd.C_of_reads (h1 := fun _ => rfl) (hA1 _ (Kd.reads_of_C (HR0.out W_ hk)))⟩
                    have HE2 : Aside0 (∀ W_, Kept w W_ (fun k => k = kb) → Kd.C (Kd.int .i64) W_ B2 Y.length Y) := ⟨fun W_ hk => Kd.C_of_reads (h1 := fun _ => rfl) (hA2 _ (Kd.reads_of_C (HR1.out W_ hk)))⟩
                    clear hC1 hC2 hA1 hA2 m1 m2 m3 m4 hXe hYe hq1 hqs1
                    have HCA := Aside0.mk ca
                    have HCC := Aside0.mk cc
                    clear ca cc
                    go_upto_region 7 with (fail)
                    (try simp only [Act.put, List.setIfInBounds_toArray, List.set_cons_zero, List.set_cons_succ])
                    go_cut [12] (fun v12 wd => Aside0 (Kd.R k27 27 wd w.heap.size (fun k => k ≠ kb) v12 row) ∧ Aside0 (PB gx gy gz gp kb cap A0 c0 l0.length A1 c1 l1.length wd) ∧ Aside0 (Kd.R (Kd.int .i64) 3 wd base ok (.slice (some ⟨kb, 0, none⟩) l0.length cap) U2) ∧ Aside0 (Kept w wd (fun k => k = kb)) ∧ Aside0 (Below w0.heap.size w0 wd))
                    case first =>
                      have e0 : wc.cell? ⟨gx, 0, none⟩ = some (.slice A0 l0.length c0) := (blk_cell HW.out.x 0).trans rfl
                      have e1 : wc.cell? ⟨gy, 0, none⟩ = some (.slice A1 l1.length c1) := (blk_cell HW.out.y 0).trans rfl
                      go_region_held3 (fun w' => w'.cell? ⟨gx, 0, none⟩ = some (.slice A0 l0.length c0) ∧ w'.cell? ⟨gy, 0, none⟩ = some (.slice A1 l1.length c1)) (go_keep)
                        (first | (go_at_call 9; (with_reducible refine (patience_Unique.calls B1 _ X B2 _ Y us _ (HE1.out _ (Kept.drew HK.out)) HD1.out (HE2.out _ (Kept.drew HK.out)) HD2.out HUS.out).mono ?_); rintro e w91 ⟨v91, rfl, hk91, hb91⟩; have n0_ := Aside0.mk (Kd.R_below (Kd.R_drew HT.out) hb91); have n1_ := Aside0.mk (Kept.below (S := (fun k => k = kb)) (Kept.drew HK.out) hb91); have n2_ : Aside0 (Below w0.heap.size w0 w91) := ⟨(below_drew1 HB.out).trans (hb91.mono (below_drew1 HB.out).size)⟩; have n3_ := Aside0.mk (HW.out.drew.below hb91); clear HT HK HB HW hb91 e0 e1; have HT := n0_; have HK := n1_; have HB := n2_; have HW := n3_; clear n0_ n1_ n2_ n3_; have e0 : w91.cell? ⟨gx, 0, none⟩ = some (.slice A0 l0.length c0) := (blk_cell HW.out.x 0).trans rfl; have e1 : w91.cell? ⟨gy, 0, none⟩ = some (.slice A1 l1.length c1) := (blk_cell HW.out.y 0).trans rfl; obtain ⟨A91, c91, e91, hc91, hr91⟩ := Kd.R_reads hk91; subst e91; have HC91 := Aside0.mk hc91; have HR91 := Aside0.mk hr91; clear hc91 hr91 hk91) | (go_at_call 7; (with_reducible refine (patience_Longest.calls k _ _ us row _ HR91.out HC91.out HROW.out).mono ?_); rintro e w92 ⟨v92, rfl, hk92, hb92⟩; have n0_ := Aside0.mk (Kd.R_below HT.out hb92); have n1_ := Aside0.mk (Kept.below (S := (fun k => k = kb)) HK.out hb92); have n2_ : Aside0 (Below w0.heap.size w0 w92) := ⟨HB.out.trans (hb92.mono HB.out.size)⟩; have n3_ := Aside0.mk (HW.out.below hb92); have HK13 := HK; have HT13 := HT; have H12r := Aside0.mk hk92; clear HT HK HB HW hb92 hk92 e0 e1 HR91 HC91; have HT := n0_; have HK := n1_; have HB := n2_; have HW := n3_; clear n0_ n1_ n2_ n3_; have e0 : w92.cell? ⟨gx, 0, none⟩ = some (.slice A0 l0.length c0) := (blk_cell HW.out.x 0).trans rfl; have e1 : w92.cell? ⟨gy, 0, none⟩ = some (.slice A1 l1.length c1) := (blk_cell HW.out.y 0).trans rfl))
                      all_goals (go_wp2; go_meet)
                      all_goals (case rel => exact ⟨⟨Kd.R_lower (Kd.R_mono (Kd.R_newR H12r.out HT13.out) (fun k hk e => hk.2 (by subst e; simp [Value.ownBlock]))) HK13.out.1⟩, HW, HT, HK, HB⟩)
                    case rest =>
                      clear HW HT HK HB
                      obtain ⟨H12, HW, HT, HK, HB⟩ := hcut
                      obtain ⟨A12, c12, e12, hc12, hr12⟩ := Kd.R_reads H12.out
                      subst e12
                      have HC12 := Aside0.mk hc12
                      clear hc12 hr12 HE1 HE2 HD1 HD2 hcut1 hcut2 HUS HROW
                      by_cases hrl : row.length = 0
                      · have crb : ((row.length : Int) == 0) = true := beq_iff_eq.mpr (by omega)
                        have HH4 : Aside0 (patience_least.f k U2 l0 l1 i yb j yd = some T') := ⟨by
                          have h := HH3.out
                          rw [if_pos hrl, show ((i.toNat : Nat) : Int) = i from by omega, show ((j.toNat : Nat) : Int) = j from by omega, show ((yb.toNat : Nat) : Int) = yb from by omega, show ((yd.toNat : Nat) : Int) = yd from by omega] at h
                          exact h⟩
                        clear HH3 hrl
                        have e0 := (blk_cell HW.out.x 0).trans (show _ = some (Value.slice A0 l0.length c0) from rfl)
                        have e1 := (blk_cell HW.out.y 0).trans (show _ = some (Value.slice A1 l1.length c1) from rfl)
                        have e2 := (blk_cell HW.out.k 0).trans (show _ = some (Value.slice (some ⟨kb, 0, none⟩) l0.length cap) from rfl)
                        go_wp2_with (go_at_call 26; (with_reducible refine (patience_least.calls k kb cap base l0.length ok U2 HUL.out A0 c0 l0 A1 c1 l1 i yb j yd T' w0 _ HB.out HKB.out HT.out (fun W_ hk => HR0.out W_ (Kept.then_ HK.out hk (fun k h => .inl h))) HC0.out (fun W_ hk => HR1.out W_ (Kept.then_ HK.out hk (fun k h => .inl h))) HC1.out HH4.out).mono ?_); rintro e w99 ⟨rfl, hT9, hL9, hB9, hK9⟩; have HT9 := Aside0.mk hT9; have HL9 := Aside0.mk hL9; have HB9 := Aside0.mk hB9; have HK9 := Aside0.mk hK9; clear hT9 hL9 hB9 hK9)
                        refine bodyPost_ret (results_none rfl _ _ _) rfl ?_
                        exact ⟨rfl, HW.out.kept HK9.out, HT9.out, HL9.out, Kept.then_ HK.out HK9.out (fun k h => .inl h), HB9.out⟩
                      · have crb : ((row.length : Int) == 0) = false := beq_eq_false_iff_ne.mpr (by omega)
                        have hh := HH3.out
                        rw [if_neg hrl] at hh
                        by_cases hrl2 : row.length ≤ 1000000
                        case neg => rw [if_neg hrl2] at hh; cases hh
                        rw [if_pos hrl2] at hh
                        have HH4 : Aside0 ((pp_row (pp_piece l0 l1 k) i.toNat j.toNat yb.toNat yd.toNat (row.drop (0 : Int).toNat) i.toNat j.toNat U2).bind (fun q => pp_piece l0 l1 k q.1 yb.toNat q.2.1 yd.toNat q.2.2) = some T') := ⟨hh⟩
                        have HRL := Aside0.mk hrl2
                        clear hh hrl2
                        have HUV : Aside0 (i.toNat ≤ yb.toNat ∧ j.toNat ≤ yd.toNat) := ⟨by have := HQ.out; omega⟩
                        clear HH3 hrl
                        go_wp2
                        go_loopg [13, 14, 108] row.length (fun q v13 v14 v108 w' => ∃ (z u v : Int) (V : List Int), v13 = .int .i64 u ∧ v14 = .int .i64 v ∧ v108 = .int .i64 z ∧ 0 ≤ z ∧ z ≤ 1000000 ∧ 0 ≤ u ∧ 0 ≤ v ∧ Aside0 (z + (q : Int) = (row.length : Int)) ∧ Aside0 (V.length = l0.length) ∧ Aside0 (u.toNat ≤ yb.toNat ∧ v.toNat ≤ yd.toNat) ∧ Aside0 ((pp_row (pp_piece l0 l1 k) i.toNat j.toNat yb.toNat yd.toNat (row.drop z.toNat) u.toNat v.toNat V).bind (fun q => pp_piece l0 l1 k q.1 yb.toNat q.2.1 yd.toNat q.2.2) = some T') ∧ Aside0 (PB gx gy gz gp kb cap A0 c0 l0.length A1 c1 l1.length w') ∧ Aside0 (Kd.R (Kd.int .i64) 3 w' base ok (.slice (some ⟨kb, 0, none⟩) l0.length cap) V) ∧ Aside0 (Kd.R k27 27 w' w.heap.size (fun k => k ≠ kb) (.slice A12 row.length c12) row) ∧ Aside0 (Kept w w' (fun k => k = kb)) ∧ Aside0 (Below w0.heap.size w0 w'))
                        case atStart => exact ⟨0, i, j, U2, rfl, rfl, rfl, by omega, by omega, hi0, hj0, ⟨by omega⟩, HUL, HUV, HH4, HW, HT, H12, HK, HB⟩
                        case round =>
                          clear HW HT HK HB HUL HUV HH4 H12
                          obtain ⟨z, u, v, V, rfl, rfl, rfl, hz0, hz1, hu0, hv0, HZ, HVL, HUV, HA, HW, HT, H12, HK, HB⟩ := hrel
                          cases gk with
                          | zero =>
                            have hzd' : decide (z < (row.length : Int)) = false := decide_eq_false (by have := HZ.out; omega)
                            have HP : Aside0 (pp_piece l0 l1 k u.toNat yb.toNat v.toNat yd.toNat V = some T') := ⟨by
                              have h := HA.out
                              rw [List.drop_eq_nil_of_le (by have := HZ.out; omega)] at h
                              exact h⟩
                            clear HA
                            have ep := (blk_cell HW.out.p 0).trans (show _ = some (Value.func (.func 25) #[] #[.pointer (some ⟨gx, 0, none⟩), .pointer (some ⟨gy, 0, none⟩), .pointer (some ⟨gz, 0, none⟩), .pointer (some ⟨gp, 0, none⟩)]) from rfl)
                            go_wp2_with (go_at_call 25; (with_reducible refine (IH.out u yb v yd u.toNat yb.toNat v.toNat yd.toNat V T' _ (by omega) (by omega) (by omega) (by omega) HB.out HW.out HT.out HVL.out (fun W_ hk => HR0.out W_ (Kept.then_ HK.out hk (fun k h => .inl h))) (fun W_ hk => HR1.out W_ (Kept.then_ HK.out hk (fun k h => .inl h))) HUV.out.1 (by have := HQ.out; omega) HUV.out.2 (by have := HQ.out; omega) HP.out).mono ?_); rintro e w99 ⟨rfl, hW9, hT9, hL9, hK9, hB9⟩; have HW9 := Aside0.mk hW9; have HT9 := Aside0.mk hT9; have HL9 := Aside0.mk hL9; have HB9 := Aside0.mk hB9; have HK9 := Aside0.mk hK9; clear hW9 hT9 hL9 hB9 hK9)
                            go_end0
                            exact ⟨rfl, HW9.out, HT9.out, HL9.out, Kept.then_ HK.out HK9.out (fun k h => .inl h), HB9.out⟩
                          | succ q1 =>
                            have hzl : z < (row.length : Int) := by have := HZ.out; omega
                            have hzd' : decide (z < (row.length : Int)) = true := decide_eq_true hzl
                            obtain ⟨ad0, ea0, hx0, hx1⟩ := at_T27 (Kd.R_reads' H12.out).2.2 z hz0 hzl
                            cases ea0
                            have HD : row.drop z.toNat = rd_T27 row z :: row.drop (z + 1).toNat := by
                              rw [show (z + 1).toNat = z.toNat + 1 by omega, List.drop_eq_getElem_cons (by omega)]
                              simp [rd_T27, List.getD_eq_getElem?_getD, show z.toNat < row.length by omega]
                            have hh := HA.out
                            rw [HD, pp_row] at hh
                            obtain ⟨px, hpx⟩ : ∃ px, (rd_T27 row z).f0 = px := ⟨_, rfl⟩
                            obtain ⟨py, hpy⟩ : ∃ py, (rd_T27 row z).f1 = py := ⟨_, rfl⟩
                            rw [hpx, hpy] at hh
                            rw [hpx] at hx0
                            rw [hpy] at hx1
                            clear HA HD hpx hpy
                            by_cases hcd : 0 ≤ px ∧ 0 ≤ py ∧ (u.toNat : Int) ≤ (i.toNat : Int) + px ∧ (v.toNat : Int) ≤ (j.toNat : Int) + py ∧ (i.toNat : Int) + px < (yb.toNat : Int) ∧ (j.toNat : Int) + py < (yd.toNat : Int)
                            case neg => rw [if_neg hcd] at hh; cases hh
                            rw [if_pos hcd, Option.bind_assoc] at hh
                            obtain ⟨V2, hrc, hh⟩ := Option.bind_eq_some_iff.mp hh
                            obtain ⟨i2, hi2⟩ : ∃ i2, i + px = i2 := ⟨_, rfl⟩
                            obtain ⟨j2, hj2⟩ : ∃ j2, j + py = j2 := ⟨_, rfl⟩
                            obtain ⟨d1, d2, d3, d4, d5, d6⟩ := hcd
                            have HRC : Aside0 (pp_piece l0 l1 k u.toNat i2.toNat v.toNat j2.toNat (V.set i2.toNat j2) = some V2) := ⟨by
                              rw [show i2.toNat = i.toNat + px.toNat from by omega, show j2.toNat = j.toNat + py.toNat from by omega, show j2 = (j.toNat : Int) + py from by omega]; exact hrc⟩
                            have HA2 : Aside0 ((pp_row (pp_piece l0 l1 k) i.toNat j.toNat yb.toNat yd.toNat (row.drop (z + 1).toNat) (i2 + 1).toNat (j2 + 1).toNat V2).bind (fun q => pp_piece l0 l1 k q.1 yb.toNat q.2.1 yd.toNat q.2.2) = some T') := ⟨by
                              rw [show (i2 + 1).toNat = i.toNat + px.toNat + 1 from by omega, show (j2 + 1).toNat = j.toNat + py.toNat + 1 from by omega]; exact hh⟩
                            have HIJ : Aside0 (u.toNat ≤ i2.toNat ∧ v.toNat ≤ j2.toNat ∧ i2 < yb ∧ j2 < yd ∧ 0 ≤ i2 ∧ 0 ≤ j2) := ⟨by omega⟩
                            have hiw : wrap64 (i + px) = i2 := by rw [← hi2]; unfold wrap64; omega
                            have hjw : wrap64 (j + py) = j2 := by rw [← hj2]; unfold wrap64; omega
                            have hiw2 := (i64_w _).trans hiw
                            have hjw2 := (i64_w _).trans hjw
                            clear hh hrc d1 d2 d3 d4 d5 d6 hi2 hj2
                            have p1 := eq_true hz0
                            have p2 := eq_true hzl
                            go_upto_region 14 with (first | ((with_reducible refine gate_dst (N := 16) rfl ?_); refine box_event ?hg (N := 16) ?hd (cs := #[.int .i64 0, .int .i64 0]) (t := 27) ?hr ?_; (case hd => rfl); (case hg => rfl); (case hr => first | (go_simp; done) | (go_simp; rfl)); intro gb16 hg w16 hbox hb; have n1_ := Aside0.mk (below_step HB.out hb); have n2_ := Aside0.mk (hg ▸ HB.out.size : w0.heap.size ≤ gb16); have n3_ := Aside0.mk (HW.out.below hb); have n4_ := Aside0.mk (Kd.R_below HT.out hb); have n5_ : Aside0 (Kd.R k27 27 w16 w.heap.size (fun k => k ≠ kb ∧ k ≠ gb16) _ row) := ⟨Kd.R_below (Kd.R_mono (Kd.R_bound H12.out) (fun k hk => ⟨hk.1, by have := hk.2.2.1; omega⟩)) hb⟩; have n6_ := Aside0.mk (Kept.below (S := (fun k => k = kb)) HK.out hb); have n7_ : Aside0 (gx ≠ gb16 ∧ gy ≠ gb16 ∧ gz ≠ gb16 ∧ gp ≠ gb16) := ⟨by have h1 := blk_lt HW.out.x; have h2 := blk_lt HW.out.y; have h3 := blk_lt HW.out.k; have h4 := blk_lt HW.out.p; omega⟩; have n8_ : Aside0 (w.heap.size ≤ gb16) := ⟨by rw [hg]; exact HK.out.1⟩; clear HB HW HT H12 HK; have HB := n1_; have GE16 := n2_; have HW := n3_; have HT := n4_; have H12 := n5_; have HK := n6_; have NE16 := n7_; have GW16 := n8_; have BK16 := Aside0.mk hbox; clear hbox hb hg n1_ n2_ n3_ n4_ n5_ n6_ n7_ n8_; have f0 := blk_frozen BK16.out 0; have f1 := blk_frozen BK16.out 1; have g0 := (blk_cell BK16.out 0).trans rfl; have g1 := (blk_cell BK16.out 1).trans rfl))
                            have n1_ : Aside0 (PB gx gy gz gp kb cap A0 c0 l0.length A1 c1 l1.length ((w16.setCell ⟨gb16, 0, none⟩ (.int .i64 px)).setCell ⟨gb16, 1, none⟩ (.int .i64 py))) := ⟨(HW.out.setF NE16.out.1 NE16.out.2.1 NE16.out.2.2.1 NE16.out.2.2.2 _ _).setF NE16.out.1 NE16.out.2.1 NE16.out.2.2.1 NE16.out.2.2.2 _ _⟩
                            have n2_ : Aside0 (Kd.R (Kd.int .i64) 3 ((w16.setCell ⟨gb16, 0, none⟩ (.int .i64 px)).setCell ⟨gb16, 1, none⟩ (.int .i64 py)) base ok (.slice (some ⟨kb, 0, none⟩) l0.length cap) V) := ⟨Kd.R_set (Kd.R_set HT.out BK16.out (by decide) 0 _) (blk_set BK16.out 0 _) (by decide) 1 _⟩
                            have n3_ : Aside0 (Kd.R k27 27 ((w16.setCell ⟨gb16, 0, none⟩ (.int .i64 px)).setCell ⟨gb16, 1, none⟩ (.int .i64 py)) w.heap.size (fun k => k ≠ kb) (.slice (some ad0) row.length c12) row) := ⟨Kd.R_mono (Kd.R_far (Kd.R_far H12.out (fun k hk => hk.2) _) (fun k hk => hk.2) _) (fun k hk => hk.1)⟩
                            have n4_ : Aside0 (Kept w ((w16.setCell ⟨gb16, 0, none⟩ (.int .i64 px)).setCell ⟨gb16, 1, none⟩ (.int .i64 py)) (fun k => k = kb)) := ⟨Kept.setCell (Kept.setCell HK.out (.inr GW16.out) _) (.inr GW16.out) _⟩
                            have n5_ : Aside0 (Below w0.heap.size w0 ((w16.setCell ⟨gb16, 0, none⟩ (.int .i64 px)).setCell ⟨gb16, 1, none⟩ (.int .i64 py))) := ⟨below_set (below_set HB.out GE16.out) GE16.out⟩
                            have n6_ : Aside0 (((w16.setCell ⟨gb16, 0, none⟩ (.int .i64 px)).setCell ⟨gb16, 1, none⟩ (.int .i64 py)).heap[gb16]? = some (.cells #[.int .i64 px, .int .i64 py] 27 (0, 0))) := ⟨blk_set (blk_set BK16.out 0 _) 1 _⟩
                            clear HW HT H12 HK HB BK16 f0 f1 g0 g1 hx0 hx1 p1 p2 GW16 NE16
                            generalize ((w16.setCell ⟨gb16, 0, none⟩ (.int .i64 px)).setCell ⟨gb16, 1, none⟩ (.int .i64 py)) = w5 at n1_ n2_ n3_ n4_ n5_ n6_ ⊢
                            have HW := n1_
                            have HT := n2_
                            have H12 := n3_
                            have HK := n4_
                            have HB := n5_
                            have BK5 := n6_
                            clear n1_ n2_ n3_ n4_ n5_ n6_
                            have g0 := (blk_cell BK5.out 0).trans (show _ = some (Value.int .i64 px) from rfl)
                            have g1 := (blk_cell BK5.out 1).trans (show _ = some (Value.int .i64 py) from rfl)
                            go_cut [17, 18] (fun v17 v18 wd => v17 = .int .i64 i2 ∧ v18 = .int .i64 j2 ∧ Aside0 (PB gx gy gz gp kb cap A0 c0 l0.length A1 c1 l1.length wd) ∧ Aside0 (Kd.R (Kd.int .i64) 3 wd base ok (.slice (some ⟨kb, 0, none⟩) l0.length cap) V) ∧ Aside0 (Kd.R k27 27 wd w.heap.size (fun k => k ≠ kb) (.slice (some ad0) row.length c12) row) ∧ Aside0 (Kept w wd (fun k => k = kb)) ∧ Aside0 (Below w0.heap.size w0 wd))
                            case first =>
                              go_wp2
                              repeat (go_quiet (fail); try go_wp2)
                              go_meet
                              case rel => exact ⟨(by first | rfl | (simp; done) | (simp [*]; done)), (by first | rfl | (simp; done) | (simp [*]; done)), ⟨HW.out.drewN _⟩, ⟨Kd.R_drewN HT.out _⟩, ⟨Kd.R_drewN H12.out _⟩, ⟨Kept.drewN HK.out _⟩, ⟨pw_below_drewN HB.out _⟩⟩
                            case rest =>
                              clear HW HT H12 HK HB BK5 g0 g1 hiw hjw hiw2 hjw2
                              obtain ⟨rfl, rfl, HW, HT, H12, HK, HB⟩ := hcut
                              have e2 := (blk_cell HW.out.k 0).trans (show _ = some (Value.slice (some ⟨kb, 0, none⟩) l0.length cap) from rfl)
                              have hq0 : 0 ≤ i2 := HIJ.out.2.2.2.2.1
                              have hq1 : i2 < (l0.length : Int) := by have := HIJ.out; have := HQ.out; omega
                              have hq2 : i2.toNat < V.length := by have := HVL.out; omega
                              have p1 := eq_true hq0
                              have p2 := eq_true hq1
                              obtain ⟨f3, f4⟩ := R_cell_nat (by have h := HT.out; have e := HVL.out; rw [← e] at h; exact h) i2.toNat hq2
                              go_upto_region 16 with (fail)
                              have n1_ : Aside0 (PB gx gy gz gp kb cap A0 c0 l0.length A1 c1 l1.length (wc.setCell ⟨kb, i2.toNat, none⟩ (.int .i64 j2))) := ⟨HW.out.set _ _⟩
                              have n2_ : Aside0 (Kd.R (Kd.int .i64) 3 (wc.setCell ⟨kb, i2.toNat, none⟩ (.int .i64 j2)) base ok (.slice (some ⟨kb, 0, none⟩) l0.length cap) (V.set i2.toNat j2)) := ⟨R_store_nat HT.out _ _⟩
                              have n3_ : Aside0 (Kd.R k27 27 (wc.setCell ⟨kb, i2.toNat, none⟩ (.int .i64 j2)) w.heap.size (fun k => k ≠ kb) (.slice (some ad0) row.length c12) row) := ⟨Kd.R_far H12.out (fun k hk => hk) _⟩
                              have n4_ : Aside0 (Kept w (wc.setCell ⟨kb, i2.toNat, none⟩ (.int .i64 j2)) (fun k => k = kb)) := ⟨Kept.setCell HK.out (.inl rfl) _⟩
                              have n5_ : Aside0 (Below w0.heap.size w0 (wc.setCell ⟨kb, i2.toNat, none⟩ (.int .i64 j2))) := ⟨below_set HB.out HKB.out⟩
                              clear HW HT H12 HK HB e2 f3 f4 p1 p2 hq1 hq2
                              generalize (wc.setCell ⟨kb, i2.toNat, none⟩ (.int .i64 j2)) = w6 at n1_ n2_ n3_ n4_ n5_ ⊢
                              have HW := n1_
                              have HT := n2_
                              have H12 := n3_
                              have HK := n4_
                              have HB := n5_
                              clear n1_ n2_ n3_ n4_ n5_
                              have ep := (blk_cell HW.out.p 0).trans (show _ = some (Value.func (.func 25) #[] #[.pointer (some ⟨gx, 0, none⟩), .pointer (some ⟨gy, 0, none⟩), .pointer (some ⟨gz, 0, none⟩), .pointer (some ⟨gp, 0, none⟩)]) from rfl)
                              go_wp2_with (go_at_call 25; (with_reducible refine (IH.out u i2 v j2 u.toNat i2.toNat v.toNat j2.toNat (V.set i2.toNat j2) V2 _ (by omega) (by have := HIJ.out; omega) (by omega) (by have := HIJ.out; omega) HB.out HW.out HT.out (by rw [List.length_set]; exact HVL.out) (fun W_ hk => HR0.out W_ (Kept.then_ HK.out hk (fun k h => .inl h))) (fun W_ hk => HR1.out W_ (Kept.then_ HK.out hk (fun k h => .inl h))) HIJ.out.1 (by have := HIJ.out; have := HQ.out; omega) HIJ.out.2.1 (by have := HIJ.out; have := HQ.out; omega) HRC.out).mono ?_); rintro e w99 ⟨rfl, hW9, hT9, hL9, hK9, hB9⟩; have n1_ := Aside0.mk hW9; have n2_ := Aside0.mk hT9; have n3_ := Aside0.mk hL9; have n4_ := Aside0.mk hB9; have n5_ := Aside0.mk (Kept.then_ HK.out hK9 (fun k h => .inl h)); have n6_ := Aside0.mk (Kd.R_step H12.out (fun k ho hlt => hK9.2 k hlt ho)); clear hW9 hT9 hL9 hK9 hB9 HW HT H12 HK HB ep; have HW := n1_; have HT := n2_; have HV2 := n3_; have HB := n4_; have HK := n5_; have H12 := n6_; clear n1_ n2_ n3_ n4_ n5_ n6_)
                              go_roundg q1
                              case measure => omega
                              case rel =>
                                obtain ⟨hb1, hb2, hb3, hb4, hb5, hb6⟩ := HIJ.out
                                exact ⟨z + 1, i2 + 1, j2 + 1, V2, by rw [show wrap64 (i2 + 1) = i2 + 1 from by unfold wrap64; omega], by rw [show wrap64 (j2 + 1) = j2 + 1 from by unfold wrap64; omega], by go_num, by omega, by have := HZ.out; have := HRL.out; omega, by omega, by have := HIJ.out; omega, ⟨by have := HZ.out; omega⟩, HV2, ⟨by have := HIJ.out; omega⟩, HA2, HW, HT, H12, HK, HB⟩
set_option maxHeartbeats 2000000 in
set_option maxRecDepth 100000 in
theorem pp_repeat.calls (A0 : Option Addr) (c0 : Nat) (l0 : List Int) (a1 : Int) (r : List Int) (w : World) (hr0 : Kd.C (Kd.int .i64) w A0 l0.length l0) (hc0 : l0.length ≤ c0) (h : slices_Repeat_int_int.f l0 a1 = some r) :
    Calls Try.prog 24 #[.slice A0 l0.length c0, .int .i64 a1] w fun e w' => e = .returned (.slice (some ⟨w.heap.size, 0, none⟩) r.length r.length) ∧ Kd.R (Kd.int .i64) 3 w' w.heap.size (fun _ => True) (.slice (some ⟨w.heap.size, 0, none⟩) r.length r.length) r ∧ Below w.heap.size w w' := by
  unfold slices_Repeat_int_int.f at h
  by_cases hl : l0.length = 1 ∧ 0 ≤ a1 ∧ a1 ≤ 1000000
  case neg => rw [if_neg hl] at h; cases h
  rw [if_pos hl] at h
  obtain rfl := Option.some.inj h
  clear h
  obtain ⟨hl1, hn0, hn1⟩ := hl
  obtain ⟨x, rfl⟩ := List.length_eq_one_iff.mp hl1
  obtain ⟨ad, ea, hx0⟩ := Kd.at_int hr0 0 (by omega) (by simp)
  cases ea
  simp only [List.length_cons, List.length_nil, Nat.zero_add, List.getD_cons_zero] at *
  have HX := Aside0.mk hx0
  clear hr0 hx0 hl1
  obtain ⟨n, rfl⟩ : ∃ n : Nat, a1 = (n : Int) := ⟨a1.toNat, by omega⟩
  have HM := Aside0.mk (rp_mul (n : Int) hn0 hn1)
  simp only [Int.toNat_natCast]
  have hmk := run_make_row' (P := Try.prog) 22 3 (.int .i64 0) 8 Try.underlying22 info3 rfl .i64 .i64 n (by omega) (by omega)
  have HB := Aside0.mk (Below.refl w.heap.size w)
  have q1 : IntKind.u64.wrap (n : Int) = (n : Int) := by rw [IntKind.wrap_u64]; omega
  have q2 : IntKind.i64.wrap (n : Int) = (n : Int) := by rw [IntKind.wrap_i64]; omega
  go_enter Try.func24, Try.ntmps24
  have hx1 : ∀ nd, ((w.drewN nd).alloc (Obj.cells (madeCells #[Value.int IntKind.i64 0] n) 3)).cell? (ad.add 0) = some (Value.int .i64 x) := by
    intro nd
    have h := HX.out
    rw [show rd [x] 0 = x from rfl] at h
    exact ((below_alloc (pw_below_drewN (Below.refl _ w) nd) _).cell (World.block_lt_of_cell? w _ h)).trans h
  have HX1 := Aside0.mk hx1
  clear hx1
  obtain ⟨m0, hm0⟩ : ∃ m0, m0 = min 1 n := ⟨_, rfl⟩
  obtain ⟨g, hg⟩ : ∃ g, g = w.heap.size := ⟨_, rfl⟩
  have HG := Aside0.mk hg
  have HROW : ∀ nd, Aside0 (((w.drewN nd).alloc (Obj.cells (madeCells #[Value.int IntKind.i64 0] n) 3)).heap[g]? = some (.cells (rp_row x 0 n).toArray 3 (0, 0))) := fun nd => ⟨by
    have h := blk_new (w.drewN nd) (Obj.cells (madeCells #[Value.int IntKind.i64 0] n) 3)
    rw [rp_made x] at h
    rw [rp_made x, hg]
    exact h⟩
  have hcl : (List.replicate m0 (Value.int .i64 x)).length = Nat.min 1 n := by rw [List.length_replicate, hm0]
  have hcf : 0 + (List.replicate m0 (Value.int .i64 x)).length ≤ (rp_row x 0 n).length := by rw [List.length_replicate, rp_row_len x 0 n (by omega)]; omega
  have h1c : ∀ v ∈ List.replicate m0 (Value.int .i64 x), v.oneCell' = true := by intro v hv; rw [List.eq_of_mem_replicate hv]; rfl
  have hgb : w.heap.size ≤ g := by rw [hg]; exact Nat.le_refl _
  go_wp2_with (first | (go_at_call 37; (with_reducible refine (bits_Mul.calls 1 (n : Int) 0 (n : Int) _ HM.out).mono ?_); rintro e w1 ⟨rfl, ⟨nd, rfl⟩⟩) | ((with_reducible refine gate_dst (N := 33) rfl ?_); go_loud (refine wpList_copy_splice rfl _ _ 22 22 rfl 3 Try.underlying22 (by kernel_rfl) (some ⟨w.heap.size, 0, none⟩) (some ad) n n 1 c0 rfl rfl g 0 (rp_row x 0 n) 3 (HROW nd).out (List.replicate m0 (Value.int .i64 x)) hcl (fun hp => ⟨by rw [HG.out], ad, rfl, rp_src _ (HX1.out nd) (by omega)⟩) hcf h1c w.heap.size w (below_alloc (pw_below_drewN HB.out nd) _) hgb ?_); intro w4 hg4 hb4))
  have hrow : w4.heap[g]? = some (.cells (rp_row x m0 n).toArray 3 (0, 0)) := by
    have h : w4.heap[g]? = some (Obj.cells (splice (rp_row x 0 n) 0 (List.replicate m0 (Value.int IntKind.i64 x))).toArray 3 (0, 0)) := hg4
    rw [rp_splice x 0 m0 n (by omega), Nat.zero_add] at h
    exact h
  have HROW4 := Aside0.mk hrow
  have HB4 := Aside0.mk hb4
  clear hrow hb4 hg4 HROW hcl hcf h1c HX1 HX HM HB
  subst hg
  clear HG
  obtain ⟨i0, hi0, hs0⟩ : ∃ i0, Try.prog.info? 3 = some i0 ∧ i0.size = 1 := ⟨_, rfl, rfl⟩
  go_loopg [8] (n - m0) (fun q v8 w' => ∃ m : Int, v8 = .int .i64 m ∧ 0 ≤ m ∧ m ≤ 1000000 ∧ Aside0 (m + (q : Int) = (n : Int) ∧ (1 ≤ m ∨ n = 0)) ∧ Aside0 (w'.heap[w.heap.size]? = some (.cells (rp_row x m.toNat n).toArray 3 (0, 0))) ∧ Aside0 (Below w.heap.size w w'))
  case atStart =>
    refine ⟨(m0 : Int), ?_, by omega, by omega, ⟨by omega, by omega⟩, HROW4, HB4⟩
    rw [hm0]
  case round =>
    clear HROW4 HB4
    obtain ⟨m, rfl, hm1, hm2, HZ, HROW, HB⟩ := hrel
    cases gk with
    | zero =>
      have hmd : decide (m < (n : Int)) = false := decide_eq_false (by have := HZ.out; omega)
      have hmn : m.toNat = n := by have := HZ.out.1; omega
      go_wp2
      go_ret
      have hlen : ∀ z : Int, (List.replicate n z).length = n := fun z => List.length_replicate
      refine ⟨by rw [hlen]; rfl, ?_, HB.out⟩
      rw [hlen]
      refine Kd.R_of_own ⟨by simp [encs], .inr ⟨w.heap.size, n, _, by simp, hgb, HROW.out, by simp, by unfold maxLen; omega, by rw [List.size_toArray, rp_row_len x m.toNat n (by omega), Nat.mul_one], ?_⟩⟩ (fun _ _ => trivial)
      have e : m.toNat = n := by have := HZ.out; omega
      rw [e]
      simp [rp_row, encs]
    | succ q1 =>
      have hml : m < (n : Int) := by have := HZ.out; omega
      have hmd : decide (m < (n : Int)) = true := decide_eq_true hml
      have p1 := eq_true hm1
      have p2 := eq_true (show m ≤ (n : Int) by omega)
      have p3 := eq_false (show ¬ (n = m.toNat) by omega)
      have hs1 : ∀ W : World, (Instr.slice 22 (.slice (some ⟨w.heap.size, 0, none⟩) n n) (some (.int .i64 m)) none none).run Try.prog W = .ok (.slice (some ⟨w.heap.size, m.toNat, none⟩) (n - m.toNat) (n - m.toNat)) W := by
        intro W
        have := run_cut_l 22 3 Try.underlying22 hi0 hs0 w.heap.size 0 n n m hm1 (by omega) hml W
        rw [Nat.zero_add] at this
        exact this
      have hs2 : ∀ W : World, (Instr.slice 22 (.slice (some ⟨w.heap.size, 0, none⟩) n n) none (some (.int .i64 m)) none).run Try.prog W = .ok (.slice (some ⟨w.heap.size, 0, none⟩) m.toNat n) W := by
        intro W
        have hel : Try.prog.elem 22 = 3 := by simp [Program.elem, Try.underlying22]
        rw [run_slice_h W 22 _ n n (by rw [hel]; exact Try.underlying22) .i64 m hm1 (by omega), hel]
        simp [sizeOf, typeInfo, hi0, hs0, sliced, Result.andThen, Addr.add]
      obtain ⟨q, hq⟩ : ∃ q, q = min m.toNat (n - m.toNat) := ⟨_, rfl⟩
      have hcl : (List.replicate q (Value.int .i64 x)).length = Nat.min m.toNat (n - m.toNat) := by rw [List.length_replicate, hq]
      have hcf : m.toNat + (List.replicate q (Value.int .i64 x)).length ≤ (rp_row x m.toNat n).length := by rw [List.length_replicate, rp_row_len x m.toNat n (by omega)]; omega
      have h1c : ∀ v ∈ List.replicate q (Value.int .i64 x), v.oneCell' = true := by intro v hv; rw [List.eq_of_mem_replicate hv]; rfl
      go_wp2
      go_region_law (refine step_copy_splice rfl (.tmp 41) (.tmp 44) 22 22 rfl 3 Try.underlying22 (by kernel_rfl) (some ⟨w.heap.size, m.toNat, none⟩) (some ⟨w.heap.size, 0, none⟩) (n - m.toNat) (n - m.toNat) m.toNat n ?hd ?hs w.heap.size m.toNat (rp_row x m.toNat n) 3 (by first | exact HROW.out | exact blk_drew HROW.out) (List.replicate q (Value.int .i64 x)) hcl (fun hp => ⟨rfl, ⟨w.heap.size, 0, none⟩, rfl, rp_src2 (by first | exact HROW.out | exact blk_drew HROW.out) (by omega)⟩) hcf h1c w.heap.size w (by first | exact HB.out | exact below_drew1 HB.out) hgb ?_; (case hd => first | (go_simp; done) | (go_simp; rfl)); (case hs => first | (go_simp; done) | (go_simp; rfl)); intro w5 hg5 hb5)
      have HROW5 : Aside0 (w5.heap[w.heap.size]? = some (.cells (rp_row x (m + q).toNat n).toArray 3 (0, 0))) := ⟨by
        have h : w5.heap[w.heap.size]? = some (Obj.cells (splice (rp_row x m.toNat n) m.toNat (List.replicate q (Value.int IntKind.i64 x))).toArray 3 (0, 0)) := hg5
        rw [rp_splice x m.toNat q n (by omega), show m.toNat + q = (m + q).toNat from by omega] at h
        exact h⟩
      have HB5 := Aside0.mk hb5
      have HQ := Aside0.mk hq
      have hq2 : ((min m.toNat (n - m.toNat) : Nat) : Int) = (q : Int) := by rw [hq]
      have hqb : (q : Int) ≤ 1000000 := by omega
      have hq0 : (0 : Int) ≤ (q : Int) := by omega
      clear hg5 hb5 hcl hcf h1c hs1 hs2 hq
      go_wp2
      go_roundg (q1 + 1 - q)
      case measure => have := HQ.out; have := HZ.out; omega
      case rel =>
        refine ⟨m + (q : Int), ?_, ?_, ?_, ?_, HROW5, HB5⟩
        · rw [← HQ.out]
          have hw : IntKind.i64.wrap (m + (q : Int)) = m + (q : Int) := by rw [i64_w]; unfold wrap64; omega
          first | exact congrArg _ hw | (rw [hw]; done) | go_num
        · exact Int.add_nonneg hm1 hq0
        · have h1 := HQ.out; have h2 := HZ.out; omega
        · exact ⟨by have h1 := HQ.out; have h2 := HZ.out; omega, by have h2 := HZ.out; omega⟩
theorem pp_repeat1 (A0 : Option Addr) (c0 : Nat) (x : Int) (a1 : Int) (r : List Int) (w : World) (hr0 : Kd.C (Kd.int .i64) w A0 1 [x]) (hc0 : 1 ≤ c0) (h : slices_Repeat_int_int.f [x] a1 = some r) :
    Calls Try.prog 24 #[.slice A0 1 c0, .int .i64 a1] w fun e w' => e = .returned (.slice (some ⟨w.heap.size, 0, none⟩) r.length r.length) ∧ Kd.R (Kd.int .i64) 3 w' w.heap.size (fun _ => True) (.slice (some ⟨w.heap.size, 0, none⟩) r.length r.length) r ∧ Below w.heap.size w w' := pp_repeat.calls A0 c0 [x] a1 r w hr0 hc0 h
def patience_Diff.f (k : Nat) (l0 l1 : List Int) : Option (List S48 × Int) :=
  if (l0.length : Int) > 4096 then some ([], 9)
  else if (l1.length : Int) > 4096 then some ([], 9)
  else (pp_piece l0 l1 k 0 l0.length 0 l1.length (List.replicate l0.length (-1))).bind fun T => edits_Make.f T (l1.length : Int)
theorem pp_start (gx gy gz gp kb cap base : Nat) (ok : Nat → Prop) (A0 : Option Addr) (c0 : Nat) (l0 : List Int) (A1 : Option Addr) (c1 : Nat) (l1 : List Int) (w0 : World) (hl0 : l0.length ≤ 100000) (hl1 : l1.length ≤ 100000) (hc0 : l0.length ≤ c0) (hc1 : l1.length ≤ c1) (hkb : w0.heap.size ≤ kb)
    (k : Nat) (T T' : List Int) (w : World) (hB : Below w0.heap.size w0 w) (hw : PB gx gy gz gp kb cap A0 c0 l0.length A1 c1 l1.length w) (hT : Kd.R (Kd.int .i64) 3 w base ok (.slice (some ⟨kb, 0, none⟩) l0.length cap) T) (hTl : T.length = l0.length)
      (hr0 : ∀ W_, Kept w W_ (fun k => k = kb) → Kd.C (Kd.int .i64) W_ A0 l0.length l0) (hr1 : ∀ W_, Kept w W_ (fun k => k = kb) → Kd.C (Kd.int .i64) W_ A1 l1.length l1)
      (h : pp_piece l0 l1 k 0 l0.length 0 l1.length T = some T') :
    Calls Try.prog 25 #[.int .i64 0, .int .i64 (l0.length : Int), .int .i64 0, .int .i64 (l1.length : Int), .pointer (some ⟨gx, 0, none⟩), .pointer (some ⟨gy, 0, none⟩), .pointer (some ⟨gz, 0, none⟩), .pointer (some ⟨gp, 0, none⟩)] w fun e w' => e = .returned (.tuple #[]) ∧ PB gx gy gz gp kb cap A0 c0 l0.length A1 c1 l1.length w' ∧ Kd.R (Kd.int .i64) 3 w' base ok (.slice (some ⟨kb, 0, none⟩) l0.length cap) T' ∧ T'.length = l0.length ∧ Kept w w' (fun k => k = kb) ∧ Below w0.heap.size w0 w' :=
  patience_piece.calls gx gy gz gp kb cap base ok A0 c0 l0 A1 c1 l1 w0 hl0 hl1 hc0 hc1 hkb k 0 l0.length 0 l1.length T T' w hB hw hT hTl hr0 hr1 (Nat.zero_le _) (Nat.le_refl _) (Nat.zero_le _) (Nat.le_refl _) h
theorem pp_make (A : Option Addr) (c0 m : Nat) (T : List Int) (hm : T.length = m) (a1 : Int) (r1 : List S48) (r2 : Int) (w : World) (hr0 : Kd.C (Kd.int .i64) w A m T) (hc0 : m ≤ c0) (h : edits_Make.f T a1 = some (r1, r2)) :
    Calls Try.prog 27 #[.slice A m c0, .int .i64 a1] w fun e w' => ∃ v0_ : Value, e = .returned (.tuple #[v0_, .int .i64 r2]) ∧ Kd.R k48 48 w' w.heap.size (fun _ => True) v0_ r1 ∧ Below w.heap.size w w' := by
  subst hm
  exact edits_Make.calls A c0 T a1 r1 r2 w hr0 hc0 h
set_option maxHeartbeats 4000000 in
set_option maxRecDepth 100000 in
theorem patience_Diff.calls (k : Nat) (A0 : Option Addr) (c0 : Nat) (l0 : List Int) (A1 : Option Addr) (c1 : Nat) (l1 : List Int) (r1 : List S48) (r2 : Int) (w : World) (hr0 : Kd.C (Kd.int .i64) w A0 l0.length l0) (hc0 : l0.length ≤ c0) (hr1 : Kd.C (Kd.int .i64) w A1 l1.length l1) (hc1 : l1.length ≤ c1) (h : patience_Diff.f k l0 l1 = some (r1, r2)) :
    Calls Try.prog 12 #[.slice A0 l0.length c0, .slice A1 l1.length c1] w fun e w' => ∃ v0_ : Value, e = .returned (.tuple #[v0_, .int .i64 r2]) ∧ Kd.R k48 48 w' w.heap.size (fun _ => True) v0_ r1 ∧ Below w.heap.size w w' := by
  have HR0 := Aside0.mk hr0
  have HC0 := Aside0.mk hc0
  have HR1 := Aside0.mk hr1
  have HC1 := Aside0.mk hc1
  clear hr0 hc0 hr1 hc1
  unfold patience_Diff.f at h
  by_cases q1 : (l0.length : Int) > 4096
  · rw [if_pos q1] at h
    simp only [Option.some.injEq, Prod.mk.injEq] at h
    obtain ⟨rfl, rfl⟩ := h
    have z0 : decide (4096 < (l0.length : Int)) = true := decide_eq_true q1
    have z1 : decide (4096 < l0.length) = true := decide_eq_true (by omega)
    clear q1
    go_enter Try.func12, Try.ntmps12
    go_wp2
    go_ret2
    exact ⟨_, rfl, Kd.R_nil _ _ _ _ _, below_alloc (below_alloc (Below.refl _ _) _) _⟩
  rw [if_neg q1] at h
  have z0 : decide (4096 < (l0.length : Int)) = false := decide_eq_false q1
  have z1 : decide (4096 < l0.length) = false := decide_eq_false (by omega)
  by_cases q2 : (l1.length : Int) > 4096
  · rw [if_pos q2] at h
    simp only [Option.some.injEq, Prod.mk.injEq] at h
    obtain ⟨rfl, rfl⟩ := h
    have z2 : decide (4096 < (l1.length : Int)) = true := decide_eq_true q2
    have z3 : decide (4096 < l1.length) = true := decide_eq_true (by omega)
    clear q1 q2
    go_enter Try.func12, Try.ntmps12
    go_wp2
    go_ret2
    exact ⟨_, rfl, Kd.R_nil _ _ _ _ _, below_alloc (below_alloc (Below.refl _ _) _) _⟩
  rw [if_neg q2] at h
  have z2 : decide (4096 < (l1.length : Int)) = false := decide_eq_false q2
  have z3 : decide (4096 < l1.length) = false := decide_eq_false (by omega)
  obtain ⟨T', hp, hm⟩ := Option.bind_eq_some_iff.mp h
  have HP := Aside0.mk hp
  have HM := Aside0.mk hm
  have HQ := Aside0.mk (show l0.length ≤ 100000 ∧ l1.length ≤ 100000 by omega)
  have HRP : Aside0 (slices_Repeat_int_int.f [-1] (l0.length : Int) = some (List.replicate l0.length (-1))) := ⟨by
    unfold slices_Repeat_int_int.f
    rw [if_pos (by simp; omega)]
    simp⟩
  have HB := Aside0.mk (Below.refl w.heap.size w)
  have HNE : Aside0 (∀ (W W' : World) (kb : Nat), w.heap.size ≤ kb → Below w.heap.size w W → Kept W W' (fun k => k = kb) → Kd.C (Kd.int .i64) W' A0 l0.length l0 ∧ Kd.C (Kd.int .i64) W' A1 l1.length l1) := ⟨fun W W' kb hk hb hkk => ⟨Kd.C_kept_came (Kd.heap_int .i64) HR0.out hb (fun k_ hs_ => by rw [hs_]; exact hk) W' hkk, Kd.C_kept_came (Kd.heap_int .i64) HR1.out hb (fun k_ hs_ => by rw [hs_]; exact hk) W' hkk⟩⟩
  clear h hp hm q1 q2
  go_enter Try.func12, Try.ntmps12
  go_upto_region 4 with (first | ((with_reducible refine gate_dst (N := 2) rfl ?_); refine box_event ?hg (N := 2) ?hd (cs := #[.slice A0 l0.length c0]) (t := 22) ?hr ?_; (case hd => rfl); (case hg => rfl); (case hr => first | (go_simp; done) | (go_simp; rfl)); intro gx hg w2 hbox hb; have n0_ := Aside0.mk (below_step HB.out hb); have GX := Aside0.mk (hg ▸ HB.out.size : w.heap.size ≤ gx); clear HB; have HB := n0_; have BX := Aside0.mk hbox; clear n0_ hbox hb hg; have ex := (blk_cell BX.out 0).trans (show _ = some (Value.slice A0 l0.length c0) from rfl)) | ((with_reducible refine gate_dst (N := 3) rfl ?_); refine box_event ?hg (N := 3) ?hd (cs := #[.slice A1 l1.length c1]) (t := 22) ?hr ?_; (case hd => rfl); (case hg => rfl); (case hr => first | (go_simp; done) | (go_simp; rfl)); intro gy hg w3 hbox hb; have n0_ := Aside0.mk (below_step HB.out hb); have GY := Aside0.mk (hg ▸ HB.out.size : w.heap.size ≤ gy); have n1_ := Aside0.mk (blk_below BX.out hb); clear HB BX ex; have HB := n0_; have BX := n1_; have BY := Aside0.mk hbox; clear n0_ n1_ hbox hb hg; have ex := (blk_cell BX.out 0).trans (show _ = some (Value.slice A0 l0.length c0) from rfl); have ey := (blk_cell BY.out 0).trans (show _ = some (Value.slice A1 l1.length c1) from rfl)) | ((with_reducible refine gate_dst (N := 16) rfl ?_); refine Kd.R_lit (Kd.int .i64) _ 3 ?hg (N := 16) ?hd (xs := ([-1] : List Int)) (inner := [.int .i64 (-1)]) (ok := fun _ => True) (okp := fun _ => True) ?hr ?hp (fun _ hk => hk) trivial (Below.refl _ _) (Nat.le_refl _) (by simp) ?_; (case hd => rfl); (case hg => rfl); (case hr => first | (go_simp; done) | (go_simp; rfl)); (case hp => exact (Reps.one (show Kd.M (Kd.int .i64) _ _ _ (-1) [.int .i64 (-1)] from rfl) (Reps.none _ _))); intro v17 w17 ho17 hb17 hg_ hnew_; clear hg_ hnew_; obtain ⟨A17, c17, e17, hc17, hr17⟩ := Kd.R_reads ho17; subst e17; simp only [List.length_cons, List.length_nil, Nat.zero_add] at hr17 hc17 ⊢; have HR17 := Aside0.mk hr17; have HC17 := Aside0.mk hc17; have n0_ := Aside0.mk (HB.out.trans (hb17.mono HB.out.size)); have n1_ := Aside0.mk (blk_below BX.out hb17); have n2_ := Aside0.mk (blk_below BY.out hb17); clear HB ho17 hb17 hc17 hr17 BX BY ex ey; have HB := n0_; have BX := n1_; have BY := n2_; clear n0_ n1_ n2_; have ex := (blk_cell BX.out 0).trans (show _ = some (Value.slice A0 l0.length c0) from rfl); have ey := (blk_cell BY.out 0).trans (show _ = some (Value.slice A1 l1.length c1) from rfl)) | (go_at_call 24; go_loud ((with_reducible refine (pp_repeat1 A17 c17 (-1) (l0.length : Int) _ _ HR17.out HC17.out HRP.out).mono ?_); rintro e w20 ⟨rfl, ho20, hb20⟩; simp only [List.length_replicate] at ho20 ⊢; obtain ⟨kb, hkb⟩ : ∃ kb, kb = w17.heap.size := ⟨_, rfl⟩; rw [← hkb] at ho20 ⊢; have HKB := Aside0.mk (show w.heap.size ≤ kb from by rw [hkb]; exact HB.out.size); have n0_ := Aside0.mk (HB.out.trans (hb20.mono HB.out.size)); have HT := Aside0.mk (Kd.R_lower ho20 (base' := w.heap.size) HKB.out); have n1_ := Aside0.mk (blk_below BX.out hb20); have n2_ := Aside0.mk (blk_below BY.out hb20); clear HB hb20 ho20 hkb HR17 HC17 HRP BX BY ex ey; have HB := n0_; have BX := n1_; have BY := n2_; clear n0_ n1_ n2_)) | ((with_reducible refine gate_dst (N := 6) rfl ?_); refine box_event ?hg (N := 6) ?hd (cs := #[.slice none 0 0]) (t := 22) ?hr ?_; (case hd => rfl); (case hg => rfl); (case hr => first | (go_simp; done) | (go_simp; rfl)); intro gz hg w6 hbox hb; have n0_ := Aside0.mk (below_step HB.out hb); have GZ := Aside0.mk (hg ▸ HB.out.size : w.heap.size ≤ gz); have NZ : Aside0 (gx ≠ gz ∧ gy ≠ gz) := ⟨by have h1 := blk_lt BX.out; have h2 := blk_lt BY.out; omega⟩; have n1_ := Aside0.mk (blk_below BX.out hb); have n2_ := Aside0.mk (blk_below BY.out hb); have n3_ := Aside0.mk (Kd.R_below HT.out hb); clear HB BX BY HT; have HB := n0_; have BX := n1_; have BY := n2_; have HT := n3_; have BZ := Aside0.mk hbox; clear n0_ n1_ n2_ n3_ hbox hb hg; have fz := blk_frozen BZ.out 0; have ez := (blk_cell BZ.out 0).trans (show _ = some (Value.slice none 0 0) from rfl)))
  have n0_ : Aside0 (Below w.heap.size w (w6.setCell ⟨gz, 0, none⟩ (.slice (some ⟨kb, 0, none⟩) l0.length l0.length))) := ⟨below_set HB.out GZ.out⟩
  have n1_ : Aside0 ((w6.setCell ⟨gz, 0, none⟩ (.slice (some ⟨kb, 0, none⟩) l0.length l0.length)).heap[gx]? = some (.cells #[.slice A0 l0.length c0] 22 (0, 0))) := ⟨blk_far BX.out NZ.out.1 _⟩
  have n2_ : Aside0 ((w6.setCell ⟨gz, 0, none⟩ (.slice (some ⟨kb, 0, none⟩) l0.length l0.length)).heap[gy]? = some (.cells #[.slice A1 l1.length c1] 22 (0, 0))) := ⟨blk_far BY.out NZ.out.2 _⟩
  have n3_ : Aside0 ((w6.setCell ⟨gz, 0, none⟩ (.slice (some ⟨kb, 0, none⟩) l0.length l0.length)).heap[gz]? = some (.cells #[.slice (some ⟨kb, 0, none⟩) l0.length l0.length] 22 (0, 0))) := ⟨blk_set BZ.out 0 _⟩
  have n4_ : Aside0 (Kd.R (Kd.int .i64) 3 (w6.setCell ⟨gz, 0, none⟩ (.slice (some ⟨kb, 0, none⟩) l0.length l0.length)) w.heap.size (fun _ => True) (.slice (some ⟨kb, 0, none⟩) l0.length l0.length) (List.replicate l0.length (-1))) := ⟨Kd.R_set HT.out BZ.out (by decide) 0 _⟩
  clear HB BX BY BZ HT fz ez
  generalize (w6.setCell ⟨gz, 0, none⟩ (.slice (some ⟨kb, 0, none⟩) l0.length l0.length)) = w7 at n0_ n1_ n2_ n3_ n4_ ⊢
  have HB := n0_
  have BX := n1_
  have BY := n2_
  have BZ := n3_
  have HT := n4_
  clear n0_ n1_ n2_ n3_ n4_
  go_upto_region 6 with (first | ((with_reducible refine gate_dst (N := 7) rfl ?_); refine box_event ?hg (N := 7) ?hd (cs := #[.nilFunc]) (t := 57) ?hr ?_; (case hd => rfl); (case hg => rfl); (case hr => first | (go_simp; done) | (go_simp; rfl)); intro gp hg w8 hbox hb; have n0_ := Aside0.mk (below_step HB.out hb); have GP := Aside0.mk (hg ▸ HB.out.size : w.heap.size ≤ gp); have NP : Aside0 (gx ≠ gp ∧ gy ≠ gp ∧ gz ≠ gp) := ⟨by have h1 := blk_lt BX.out; have h2 := blk_lt BY.out; have h3 := blk_lt BZ.out; omega⟩; have n1_ := Aside0.mk (blk_below BX.out hb); have n2_ := Aside0.mk (blk_below BY.out hb); have n3_ := Aside0.mk (Kd.R_below HT.out hb); have n4_ := Aside0.mk (blk_below BZ.out hb); clear HB BX BY BZ HT; have HB := n0_; have BX := n1_; have BY := n2_; have HT := n3_; have BZ := n4_; have BP := Aside0.mk hbox; clear n0_ n1_ n2_ n3_ n4_ hbox hb hg; have fp := blk_frozen BP.out 0; have ep := (blk_cell BP.out 0).trans (show _ = some Value.nilFunc from rfl); have hst : (store ⟨gp, 0, none⟩ (.func (.func 25) #[] #[.pointer (some ⟨gx, 0, none⟩), .pointer (some ⟨gy, 0, none⟩), .pointer (some ⟨gz, 0, none⟩), .pointer (some ⟨gp, 0, none⟩)])).run Try.prog w8 = .ok () (w8.setCell ⟨gp, 0, none⟩ (.func (.func 25) #[] #[.pointer (some ⟨gx, 0, none⟩), .pointer (some ⟨gy, 0, none⟩), .pointer (some ⟨gz, 0, none⟩), .pointer (some ⟨gp, 0, none⟩)])) := (by (rw [run_store _ _ _ _ _ rfl, ep]; simp [fp]))))
  have NKB : Aside0 (gx ≠ kb ∧ gy ≠ kb ∧ gz ≠ kb ∧ gp ≠ kb) := ⟨by
    have h1 := Kd.R_ne HT.out BX.out (by decide)
    have h2 := Kd.R_ne HT.out BY.out (by decide)
    have h3 := Kd.R_ne HT.out BZ.out (by decide)
    have h4 := Kd.R_ne HT.out BP.out (by decide)
    simp only [Value.ownBlock, ne_eq, Option.some.injEq] at h1 h2 h3 h4
    exact ⟨h1, h2, h3, h4⟩⟩
  have n0_ : Aside0 (Below w.heap.size w (w8.setCell ⟨gp, 0, none⟩ (.func (.func 25) #[] #[.pointer (some ⟨gx, 0, none⟩), .pointer (some ⟨gy, 0, none⟩), .pointer (some ⟨gz, 0, none⟩), .pointer (some ⟨gp, 0, none⟩)]))) := ⟨below_set HB.out GP.out⟩
  have n1_ : Aside0 (PB gx gy gz gp kb l0.length A0 c0 l0.length A1 c1 l1.length (w8.setCell ⟨gp, 0, none⟩ (.func (.func 25) #[] #[.pointer (some ⟨gx, 0, none⟩), .pointer (some ⟨gy, 0, none⟩), .pointer (some ⟨gz, 0, none⟩), .pointer (some ⟨gp, 0, none⟩)]))) := ⟨⟨blk_far BX.out NP.out.1 _, blk_far BY.out NP.out.2.1 _, blk_far BZ.out NP.out.2.2 _, blk_set BP.out 0 _, NKB.out.1, NKB.out.2.1, NKB.out.2.2.1, NKB.out.2.2.2⟩⟩
  have n4_ : Aside0 (Kd.R (Kd.int .i64) 3 (w8.setCell ⟨gp, 0, none⟩ (.func (.func 25) #[] #[.pointer (some ⟨gx, 0, none⟩), .pointer (some ⟨gy, 0, none⟩), .pointer (some ⟨gz, 0, none⟩), .pointer (some ⟨gp, 0, none⟩)])) w.heap.size (fun _ => True) (.slice (some ⟨kb, 0, none⟩) l0.length l0.length) (List.replicate l0.length (-1))) := ⟨Kd.R_set HT.out BP.out (by decide) 0 _⟩
  clear HB BX BY BZ BP HT fp ep hst
  generalize (w8.setCell ⟨gp, 0, none⟩ (.func (.func 25) #[] #[.pointer (some ⟨gx, 0, none⟩), .pointer (some ⟨gy, 0, none⟩), .pointer (some ⟨gz, 0, none⟩), .pointer (some ⟨gp, 0, none⟩)])) = w9 at n0_ n1_ n4_ ⊢
  have HB := n0_
  have HW := n1_
  have HT := n4_
  clear n0_ n1_ n4_
  have ex := (blk_cell HW.out.x 0).trans (show _ = some (Value.slice A0 l0.length c0) from rfl)
  have ey := (blk_cell HW.out.y 0).trans (show _ = some (Value.slice A1 l1.length c1) from rfl)
  have ep := (blk_cell HW.out.p 0).trans (show _ = some (Value.func (.func 25) #[] #[.pointer (some ⟨gx, 0, none⟩), .pointer (some ⟨gy, 0, none⟩), .pointer (some ⟨gz, 0, none⟩), .pointer (some ⟨gp, 0, none⟩)]) from rfl)
  go_wp2_with (first | (go_at_call 25; go_loud ((with_reducible refine (pp_start gx gy gz gp kb l0.length w.heap.size _ A0 c0 l0 A1 c1 l1 w HQ.out.1 HQ.out.2 HC0.out HC1.out HKB.out k (List.replicate l0.length (-1)) T' _ HB.out HW.out HT.out List.length_replicate (fun W_ hk => (HNE.out _ W_ kb HKB.out HB.out hk).1) (fun W_ hk => (HNE.out _ W_ kb HKB.out HB.out hk).2) HP.out).mono ?_); rintro e w28 ⟨rfl, hw9, ht9, hl9, hk9, hb9⟩; clear HW HT HB ex ey ep; have HW := Aside0.mk hw9; have HB := Aside0.mk hb9; have HL := Aside0.mk hl9; have HR := Aside0.mk (Kd.R_reads' ht9); clear hw9 ht9 hl9 hk9 hb9; have ez := (blk_cell HW.out.k 0).trans (show _ = some (Value.slice (some ⟨kb, 0, none⟩) l0.length l0.length) from rfl); have ey := (blk_cell HW.out.y 0).trans (show _ = some (Value.slice A1 l1.length c1) from rfl))) | (go_at_call 27; go_loud ((with_reducible refine (pp_make _ l0.length l0.length T' HL.out (l1.length : Int) r1 r2 _ (by have h := HR.out.2.2; rw [HL.out] at h; exact h) (Nat.le_refl _) HM.out).mono ?_); rintro e w35 ⟨v35, rfl, h35, hb35⟩; have H35 := Aside0.mk (Kd.R_lower h35 (base' := w.heap.size) HB.out.size); have n0_ := Aside0.mk (HB.out.trans (hb35.mono HB.out.size)); clear HB h35 hb35 ez ey; have HB := n0_; clear n0_)))
  go_ret2
  exact ⟨_, rfl, H35.out, HB.out⟩
end Go.Proofs.Ytonbplflmdpikaa.X
