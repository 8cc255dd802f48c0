import Derived.Test.YtonbplflmdpikaaZOXx0
import Derived.Test.YtonbplflmdpikaaZOXx17
import Derived.RangeFuncNested
import Derived.RangeFuncBound
import Derived.RangeFuncCalls
import Derived.RangeFuncLeaves
import Derived.Shelf.Abstract
import Derived.Shelf.RegionOpen
import Derived.OwnWalkIn
import Derived.TacticsInMore
import Derived.LoopNIn
import Derived.LoopIn
namespace Go.Proofs.Ytonbplflmdpikaa.X
open Go.RowKit Go.Proofs.YtonbplflmdpikaaW.PrintWords Go.Proofs.YtonbplflmdpikaaW.PrintLast Go.Proofs.YtonbplflmdpikaaW.PrintMore
attribute [local go_sem] max2_int min2_int max_two min_two max_three min_three max_four min_four   -- for this text's walks alone
open Go.Proofs.YtonbplflmdpikaaW.HandWords
set_option linter.unusedVariables false
set_option linter.unusedSimpArgs false
attribute [local go_sem] Oper.semAt_some
def edits_runs.list (n : Int) : Int → Int → List S48 → List (S48 × Bool)
  | a, b, [] => if n > a then [(⟨a, wrap64 (n - a), b, wrap64 (n - a)⟩, true)] else []
  | a, b, c :: cs => (if c.f0 > a then [(⟨a, wrap64 (c.f0 - a), b, wrap64 (c.f0 - a)⟩, true)] else []) ++ (c, false) :: edits_runs.list n (wrap64 (c.f0 + c.f1)) (wrap64 (c.f2 + c.f3)) cs
abbrev Piece (n : Int) := { x : S48 × Bool // 0 ≤ x.1.f1 ∧ x.1.f1 ≤ n }
def encP {n : Int} (x : Piece n) : Array Value := #[.agg #[.int .i64 x.1.1.f0, .int .i64 x.1.1.f1, .int .i64 x.1.1.f2, .int .i64 x.1.1.f3], .bool x.1.2]
def KpR (D go : Nat) (A B : World) : Prop := A.heap.size ≤ B.heap.size ∧ (∀ k, k < D → k ≠ go → B.heap[k]? = A.heap[k]?) ∧ ∀ (k : Nat) (cs : Array Value), A.heap[k]? = some (Obj.cells cs 48 (0, 0)) → B.heap[k]? = some (Obj.cells cs 48 (0, 0))
theorem KpR.trans {D go : Nat} {A B C : World} (h : KpR D go A B) (k : KpR D go B C) : KpR D go A C :=
  ⟨Nat.le_trans h.1 k.1, fun i h1 h2 => (k.2.1 i h1 h2).trans (h.2.1 i h1 h2), fun i cs hi => k.2.2 i cs (h.2.2 i cs hi)⟩
theorem cell_heap {W w : World} {p : Addr} (h : W.heap[p.block]? = w.heap[p.block]?) : W.cell? p = w.cell? p := by
  simp only [World.cell?, h]
set_option maxHeartbeats 2000000 in
set_option maxRecDepth 100000 in
theorem edits_runs_1.stops (n : Int) (m : Nat) (A : Option Addr) (c0 : Nat) (l : List S48) (hc0 : l.length ≤ c0) (gl gn go D : Nat) (w0 w : World) (all : List (Piece n)) (hall : all.map (·.1) = edits_runs.list n 0 0 l)
    (hr : Kd.C k48 w0 A l.length l) (hD0 : w0.heap.size ≤ D) (hDw : D ≤ w.heap.size) (hgo : w0.heap.size ≤ go) (hbel : ∀ k, k < w0.heap.size → w.heap[k]? = w0.heap[k]?)
    (hgl : w.heap[gl]? = some (.cells #[.slice A l.length c0] 34 (0, 0))) (hgn : w.heap[gn]? = some (.cells #[.int .i64 n] 3 (0, 0))) (h1 : gl < D) (h2 : gn < D) (h3 : gl ≠ go) (h4 : gn ≠ go) :
    SeqStopsK Fence.wide m Try.prog 49 #[.pointer (some ⟨gl, 0, none⟩), .pointer (some ⟨gn, 0, none⟩)] (encP (n := n)) (KpR D go) (fun xs => xs = all) (fun _ => True) all.length w := by
  intro ly J Jx W hW hJ hJx hY hJ0
  refine callsIn_wide.2 ?_
  have HR := Aside0.mk hr
  have HALL := Aside0.mk hall
  have f1 : W.cell? ⟨gl, 0, none⟩ = some (.slice A l.length c0) := (blk_cell (blk_below hgl hW) 0).trans rfl
  clear hr hall
  have HJ0 := Aside0.mk hJ0
  clear hJ0
  go_enter Try.func49, Try.ntmps49
  go_wp2
  go_loopg [4, 5, 10] l.length (fun q v4 v5 v10 w' => ∃ (k : Nat) (a b : Int) (pre rest : List (Piece n)), v4 = .int .i64 a ∧ v5 = .int .i64 b ∧ v10 = .int .i64 (k : Int) ∧ Aside0 (k + q = l.length) ∧ Aside0 (pre ++ rest = all) ∧ Aside0 (rest.map (·.1) = edits_runs.list n a b (l.drop k)) ∧ Aside0 (J pre w') ∧ Aside0 (W.heap.size ≤ w'.heap.size ∧ ∀ j, j < D → j ≠ go → w'.heap[j]? = w.heap[j]?))
  case atStart => exact ⟨0, 0, 0, [], all, rfl, rfl, rfl, ⟨by omega⟩, ⟨rfl⟩, HALL, HJ0, ⟨Nat.le_refl _, fun j hj _ => hW.block j (by omega)⟩⟩
  case round =>
    clear HJ0 HALL f1
    obtain ⟨k, a, b, pre, rest, rfl, rfl, rfl, HK, HP, HM, HJ1, HH⟩ := hrel
    have f1 : wr.cell? ⟨gl, 0, none⟩ = some (.slice A l.length c0) := (blk_cell ((HH.out.2 gl h1 h3).trans hgl) 0).trans rfl
    have f2 : wr.cell? ⟨gn, 0, none⟩ = some (.int .i64 n) := (blk_cell ((HH.out.2 gn h2 h4).trans hgn) 0).trans rfl
    cases gk with
    | zero =>
      have hkl : (k : Int) = (l.length : Int) := by have := HK.out; omega
      have hm := HM.out
      rw [List.drop_eq_nil_of_le (by omega), edits_runs.list] at hm
      by_cases hn : n > a
      · have c1 : decide (a < n) = true := decide_eq_true hn
        rw [if_pos hn] at hm
        obtain ⟨x, rfl⟩ : ∃ x, rest = [x] := by
          have hl := congrArg List.length hm
          simp only [List.length_map, List.length_cons, List.length_nil] at hl
          exact List.length_eq_one_iff.mp hl
        simp only [List.map_cons, List.map_nil, List.cons.injEq, and_true] at hm
        have hlen : pre.length < all.length := by rw [← HP.out]; simp
        obtain ⟨fn, tmps, assign, body, hy, hR⟩ := hY pre x wr HJ1.out hlen
        unfold encP at hy
        rw [hm] at hy
        dsimp only at hy
        rw [hkl]
        clear hm hn hlen hkl
        refine (wpIn_wide (n := m)).1 ?_
        gi_wp2
        refine (wpIn_wide (n := m)).1 ?_
        gi_wp2
        refine ⟨(fun h => by cases h), hR.mono ?_⟩
        rintro e W3 (⟨rfl, hJ3, hk3⟩ | ⟨rfl, hJx3⟩)
        · gi_wp2
          go_end0
          exact ⟨⟨_, rfl⟩, .inl ⟨_, HP.out, hJ3⟩⟩
        · gi_wp2
          go_end0
          exact ⟨⟨_, rfl⟩, .inr ⟨_, trivial, hJx3⟩⟩
      · have c1 : decide (a < n) = false := decide_eq_false hn
        rw [if_neg hn] at hm
        obtain rfl : rest = [] := List.map_eq_nil_iff.mp hm
        rw [hkl]
        clear hm hn hkl
        refine (wpIn_wide (n := m)).1 ?_
        gi_wp2
        refine (wpIn_wide (n := m)).1 ?_
        gi_wp2
        go_end0
        exact ⟨⟨_, rfl⟩, .inl ⟨_, rfl, by have h := HP.out; rw [List.append_nil] at h; rw [← h]; exact HJ1.out⟩⟩
    | succ q1 =>
      have hkl : (k : Int) < (l.length : Int) := by have := HK.out; omega
      have hk0 : (0 : Int) ≤ (k : Int) := by omega
      have hlm : l.length ≤ 9223372036854775807 := HR.out.2.1
      obtain ⟨ad, ea, hx0, hx1, hx2, hx3⟩ := at_T48 HR.out (k : Int) hk0 hkl
      cases ea
      have tr : ∀ (p : Addr) (v : Value), w0.cell? p = some v → wr.cell? p = some v := by
        intro p v hp
        have hb := World.block_lt_of_cell? w0 p hp
        rw [← hp]
        exact cell_heap ((HH.out.2 p.block (by omega) (by omega)).trans (hbel _ hb))
      replace hx0 := tr _ _ hx0
      replace hx1 := tr _ _ hx1
      replace hx2 := tr _ _ hx2
      replace hx3 := tr _ _ hx3
      clear tr
      obtain ⟨c, hc⟩ : ∃ c, rd_T48 l (k : Int) = c := ⟨_, rfl⟩
      rw [hc] at hx0 hx1 hx2 hx3
      simp only [Int.toNat_natCast] at hx0 hx1 hx2 hx3
      have hm := HM.out
      have hd : l.drop k = c :: l.drop (k + 1) := by
        rw [List.drop_eq_getElem_cons (by omega), ← hc]
        simp [rd_T48, List.getD_eq_getElem?_getD, show k < l.length by omega]
      rw [hd, edits_runs.list] at hm
      have d1 : decide ((k : Int) < (l.length : Int)) = true := decide_eq_true hkl
      clear hc hd
      have hJA : J pre (wr.alloc (Obj.cells #[.int .i64 c.f0, .int .i64 c.f1, .int .i64 c.f2, .int .i64 c.f3] 48)) := hJ _ _ _ none HJ1.out (World.grownBy_alloc wr _ none) (fun r e => by cases e)
      have hbc := blk_new wr (Obj.cells #[.int .i64 c.f0, .int .i64 c.f1, .int .i64 c.f2, .int .i64 c.f3] 48)
      have HJA := Aside0.mk hJA
      have HBC := Aside0.mk hbc
      clear hJA hbc
      by_cases hg : c.f0 > a
      · have c1 : decide (a < c.f0) = true := decide_eq_true hg
        rw [if_pos hg, List.singleton_append] at hm
        obtain ⟨x1, x2, rest2, rfl⟩ : ∃ x1 x2 rest2, rest = x1 :: x2 :: rest2 := by
          cases rest with
          | nil => cases hm
          | cons x1 rest1 =>
            cases rest1 with
            | nil => rw [List.map_cons] at hm; injection hm with _ hm; cases hm
            | cons x2 rest2 => exact ⟨x1, x2, rest2, rfl⟩
        rw [List.map_cons, List.map_cons] at hm
        injection hm with hm0 hm
        injection hm with hm1 hm2
        have hlen : pre.length < all.length := by rw [← HP.out]; simp
        have hlen2 : (pre ++ [x1]).length < all.length := by rw [← HP.out]; simp
        obtain ⟨fn, tmps, assign, body, hy, hR⟩ := hY pre x1 _ HJA.out hlen
        unfold encP at hy
        rw [hm0] at hy
        dsimp only at hy
        have HM1 := Aside0.mk hm1
        have HM2 := Aside0.mk hm2
        have HL2 := Aside0.mk hlen2
        clear hm0 hm1 hm2 hlen hlen2 hg
        refine (wpIn_wide (n := m)).1 ?_
        gi_wp2
        refine ⟨(fun h => by cases h), hR.mono ?_⟩
        rintro e W2 (⟨rfl, hJ2, hk2⟩ | ⟨rfl, hJx2⟩)
        rotate_left
        · gi_wp2
          refine bodyPost_ret (results_none rfl _ _ _) rfl ?_
          exact ⟨⟨_, rfl⟩, .inr ⟨_, trivial, hJx2⟩⟩
        have hb2 := hk2.2.2 _ _ HBC.out
        have HB2 := Aside0.mk hb2
        have g0 : W2.cell? ⟨wr.heap.size, 0, none⟩ = some (.int .i64 c.f0) := (blk_cell hb2 0).trans rfl
        have g1 : W2.cell? ⟨wr.heap.size, 1, none⟩ = some (.int .i64 c.f1) := (blk_cell hb2 1).trans rfl
        have g2 : W2.cell? ⟨wr.heap.size, 2, none⟩ = some (.int .i64 c.f2) := (blk_cell hb2 2).trans rfl
        have g3 : W2.cell? ⟨wr.heap.size, 3, none⟩ = some (.int .i64 c.f3) := (blk_cell hb2 3).trans rfl
        have HK2 := Aside0.mk hk2
        clear hb2 hk2 hy hR hx0 hx1 hx2 hx3 f1 f2
        obtain ⟨fn2, tmps2, assign2, body2, hy2, hR2⟩ := hY (pre ++ [x1]) x2 W2 hJ2 HL2.out
        unfold encP at hy2
        rw [HM1.out] at hy2
        dsimp only at hy2
        gi_wp2
        refine ⟨(fun h => by cases h), hR2.mono ?_⟩
        rintro e W3 (⟨rfl, hJ3, hk3⟩ | ⟨rfl, hJx3⟩)
        · have hb3 := hk3.2.2 _ _ HB2.out
          have g4 : W3.cell? ⟨wr.heap.size, 0, none⟩ = some (.int .i64 c.f0) := (blk_cell hb3 0).trans rfl
          have g5 : W3.cell? ⟨wr.heap.size, 1, none⟩ = some (.int .i64 c.f1) := (blk_cell hb3 1).trans rfl
          have g6 : W3.cell? ⟨wr.heap.size, 2, none⟩ = some (.int .i64 c.f2) := (blk_cell hb3 2).trans rfl
          have g7 : W3.cell? ⟨wr.heap.size, 3, none⟩ = some (.int .i64 c.f3) := (blk_cell hb3 3).trans rfl
          have HJ3 := Aside0.mk hJ3
          have HK3 := Aside0.mk (HK2.out.trans hk3)
          clear hJ3 hk3 hb3 hy2 hR2 g0 g1 g2 g3
          gi_wp2
          refine wpIn_wide.2 ?_
          go_quiet (fail)
          try go_wp2
          refine wpIn_wide.2 ?_
          go_wp2
          go_roundg q1
          case measure => omega
          case rel =>
            refine ⟨k + 1, wrap64 (c.f0 + c.f1), wrap64 (c.f2 + c.f3), (pre ++ [x1]) ++ [x2], rest2, rfl, rfl, by go_num, ⟨by have := HK.out; omega⟩, ⟨by rw [← HP.out]; simp⟩, HM2, ⟨hJ _ _ _ none HJ3.out (grown_of_below (pw_below_drewN (Below.refl _ _) _) none) (fun r e => by cases e)⟩, ⟨?_, ?_⟩⟩
            · have h1 := HK3.out.1
              have h2 := HH.out.1
              simp at h1 ⊢
              omega
            · intro j hj hjg
              have hs := hW.size
              have h2 := HH.out.1
              exact (HK3.out.2.1 j hj hjg).trans ((Below.heap_alloc wr _ j (by omega)).trans (HH.out.2 j hj hjg))
        · gi_wp2
          refine bodyPost_ret (results_none rfl _ _ _) rfl ?_
          exact ⟨⟨_, rfl⟩, .inr ⟨_, trivial, hJx3⟩⟩
      · have c1 : decide (a < c.f0) = false := decide_eq_false hg
        rw [if_neg hg, List.nil_append] at hm
        obtain ⟨x2, rest2, rfl⟩ : ∃ x2 rest2, rest = x2 :: rest2 := by
          cases rest with
          | nil => cases hm
          | cons x2 rest2 => exact ⟨x2, rest2, rfl⟩
        rw [List.map_cons] at hm
        injection hm with hm1 hm2
        have hlen : pre.length < all.length := by rw [← HP.out]; simp
        obtain ⟨fn, tmps, assign, body, hy, hR⟩ := hY pre x2 _ HJA.out hlen
        unfold encP at hy
        rw [hm1] at hy
        dsimp only at hy
        have HM2 := Aside0.mk hm2
        clear hm1 hm2 hlen hg
        refine (wpIn_wide (n := m)).1 ?_
        gi_wp2
        refine ⟨(fun _ h => by cases h), ?_⟩
        gi_wp2
        refine ⟨(fun h => by cases h), hR.mono ?_⟩
        rintro e W3 (⟨rfl, hJ3, hk3⟩ | ⟨rfl, hJx3⟩)
        · have hb3 := hk3.2.2 _ _ HBC.out
          have g0 : W3.cell? ⟨wr.heap.size, 0, none⟩ = some (.int .i64 c.f0) := (blk_cell hb3 0).trans rfl
          have g1 : W3.cell? ⟨wr.heap.size, 1, none⟩ = some (.int .i64 c.f1) := (blk_cell hb3 1).trans rfl
          have g2 : W3.cell? ⟨wr.heap.size, 2, none⟩ = some (.int .i64 c.f2) := (blk_cell hb3 2).trans rfl
          have g3 : W3.cell? ⟨wr.heap.size, 3, none⟩ = some (.int .i64 c.f3) := (blk_cell hb3 3).trans rfl
          have HJ3 := Aside0.mk hJ3
          have HK3 := Aside0.mk hk3
          clear hJ3 hk3 hb3 hy hR hx0 hx1 hx2 hx3 f1 f2
          gi_wp2
          refine wpIn_wide.2 ?_
          go_quiet (fail)
          try go_wp2
          refine wpIn_wide.2 ?_
          go_wp2
          go_roundg q1
          case measure => omega
          case rel =>
            refine ⟨k + 1, wrap64 (c.f0 + c.f1), wrap64 (c.f2 + c.f3), pre ++ [x2], rest2, rfl, rfl, by go_num, ⟨by have := HK.out; omega⟩, ⟨by rw [← HP.out]; simp⟩, HM2, ⟨hJ _ _ _ none HJ3.out (grown_of_below (pw_below_drewN (Below.refl _ _) _) none) (fun r e => by cases e)⟩, ⟨?_, ?_⟩⟩
            · have h1 := HK3.out.1
              have h2 := HH.out.1
              simp at h1 ⊢
              omega
            · intro j hj hjg
              have hs := hW.size
              have h2 := HH.out.1
              exact (HK3.out.2.1 j hj hjg).trans ((Below.heap_alloc wr _ j (by omega)).trans (HH.out.2 j hj hjg))
        · gi_wp2
          refine bodyPost_ret (results_none rfl _ _ _) rfl ?_
          exact ⟨⟨_, rfl⟩, .inr ⟨_, trivial, hJx3⟩⟩
set_option maxHeartbeats 2000000 in
set_option maxRecDepth 100000 in
theorem edits_runs.calls (A : Option Addr) (m c0 : Nat) (n : Int) (w : World) :
    Calls Try.prog 44 #[.slice A m c0, .int .i64 n] w fun e w' => ∃ gl gn, e = .returned (.func (.func 49) #[] #[.pointer (some ⟨gl, 0, none⟩), .pointer (some ⟨gn, 0, none⟩)]) ∧ w.heap.size ≤ gl ∧ w.heap.size ≤ gn ∧ Boxed w' gl 34 (.slice A m c0) ∧ Boxed w' gn 3 (.int .i64 n) ∧ Below w.heap.size w w' := by
  go_enter Try.func44, Try.ntmps44
  go_wp2
  go_ret
  refine ⟨w.heap.size, w.heap.size + 1, rfl, Nat.le_refl _, by omega, (Boxed.new w 34 _).alloc _, ?_, ((Below.refl _ w).alloc (Nat.le_refl _) _).alloc (by simp) _⟩
  have h := Boxed.new (w.alloc (.cells #[.slice A m c0] 34)) 3 (.int .i64 n)
  rw [World.size_alloc] at h
  exact h
theorem keep_appended {W w1 : World} {D go b0 : Nat} {v v' : Value} {k m : Nat} {xs ys : List Value} {tmp : Obj} (hv : Boxed W go 22 v) (hrow : W.ownsRow D 3 1 v k xs) (hD : D ≤ W.heap.size) (hb : b0 ≤ go) (hb2 : b0 ≤ D)
    (hown' : w1.ownsRow D 3 1 v' m ys) (hgrow : (W.alloc tmp).grownBy w1 v.ownBlock) :
    Boxed w1 go 22 v ∧ Boxed (w1.setCell ⟨go, 0, none⟩ v') go 22 v' ∧ (w1.setCell ⟨go, 0, none⟩ v').ownsRow D 3 1 v' m ys ∧ KeepsOthers W (w1.setCell ⟨go, 0, none⟩ v') ∧ Below b0 W (w1.setCell ⟨go, 0, none⟩ v') ∧ KpR D go W (w1.setCell ⟨go, 0, none⟩ v') := by
  have hv1 : Boxed w1 go 22 v := (hv.alloc tmp).kept hgrow (hv.not_row (by decide) hrow)
  have hgb : ∀ g, v.ownBlock = some g → D ≤ g ∧ ∃ cur, W.heap[g]? = some (.cells cur 3 (0, 0)) := by
    intro g eg
    rcases hrow.2 with ⟨rfl, _⟩ | ⟨g', cap, cur, rfl, hb, hgb, _⟩
    · simp [Value.ownBlock] at eg
    · obtain rfl : g' = g := by simpa [Value.ownBlock] using eg
      exact ⟨hb, cur, hgb⟩
  have hs : W.heap.size ≤ w1.heap.size := Nat.le_trans (by simp) hgrow.size
  have same : ∀ j o, W.heap[j]? = some o → some j ≠ v.ownBlock → j ≠ go → (w1.setCell ⟨go, 0, none⟩ v').heap[j]? = some o := by
    intro j o hj hne hgo
    have hlt : j < W.heap.size := (Array.getElem?_eq_some_iff.1 hj).1
    exact ((Below.heap_setCell w1 ⟨go, 0, none⟩ v' j (by exact hgo)).trans (hgrow.block j (by simp; omega) hne)).trans ((Below.heap_alloc W tmp j hlt).trans hj)
  refine ⟨hv1, hv1.set v', hown'.kept (grownBy_setCell' w1 go v') (.inr (hv1.not_row (by decide) hown').symm), ?_, ?_, ?_⟩
  · refine ((KeepsOthers.alloc W tmp).trans (KeepsOthers.of_grownBy hgrow fun j o ej hj => ?_)).trans (KeepsOthers.setCell _ _ _)
    obtain ⟨_, cur, hc⟩ := hgb j ej
    rw [Below.heap_alloc W tmp j (Array.getElem?_eq_some_iff.1 hc).1, hc] at hj
    cases hj
    rfl
  · refine (((Below.refl b0 W).alloc (by omega) tmp).grown hgrow (by simp; omega) fun j ej => ?_).setCell (p := ⟨go, 0, none⟩) hb v'
    have := (hgb j ej).1
    omega
  · refine ⟨Nat.le_trans hs (KeepsWalks.setCell w1 ⟨go, 0, none⟩ v').size, fun j hj hjg => ?_, fun j cs hj => ?_⟩
    · have hlt : j < W.heap.size := by omega
      rw [Array.getElem?_eq_getElem hlt]
      exact same j _ (Array.getElem?_eq_getElem hlt) (fun e => by have := (hgb j e.symm).1; omega) hjg
    · refine same j _ hj (fun e => ?_) (fun e => ?_)
      · obtain ⟨_, cur, hc⟩ := hgb j e.symm
        rw [hj] at hc
        cases hc
      · subst e
        have hc : W.heap[j]? = _ := hv
        rw [hj] at hc
        cases hc
def edits_Keep.first (x : S48 × Bool) (i : Nat) : List Int := if x.2 then (List.range i).map fun j : Nat => wrap64 (x.1.f2 + (j : Int)) else List.replicate i (-1)
def edits_Keep.part (x : S48 × Bool) : List Int := edits_Keep.first x x.1.f1.toNat
theorem edits_Keep.first_length (x : S48 × Bool) (i : Nat) : (edits_Keep.first x i).length = i := by
  unfold edits_Keep.first
  split <;> simp
theorem edits_Keep.first_kept (c : S48) (i : Nat) : edits_Keep.first (c, true) (i + 1) = edits_Keep.first (c, true) i ++ [wrap64 (c.f2 + (i : Int))] := by
  simp [edits_Keep.first, List.range_succ]
theorem edits_Keep.first_other (c : S48) (i : Nat) : edits_Keep.first (c, false) (i + 1) = edits_Keep.first (c, false) i ++ [-1] := by
  simp [edits_Keep.first, List.replicate_succ']
def edits_Keep.col {n : Int} (pre : List (Piece n)) : List Int := pre.flatMap fun x => edits_Keep.part x.1
theorem edits_Keep.col_snoc {n : Int} (pre : List (Piece n)) (x : Piece n) : edits_Keep.col (pre ++ [x]) = edits_Keep.col pre ++ edits_Keep.part x.1 := by
  simp [edits_Keep.col]
theorem edits_Keep.col_length {n : Int} (pre : List (Piece n)) : (edits_Keep.col pre).length ≤ pre.length * n.toNat := by
  induction pre with
  | nil => simp [edits_Keep.col]
  | cons x xs ih =>
    have h1 : (edits_Keep.part x.1).length ≤ n.toNat := by
      have := x.2
      rw [edits_Keep.part, edits_Keep.first_length]
      omega
    simp only [edits_Keep.col, List.flatMap_cons, List.length_append, List.length_cons, Nat.succ_mul] at ih ⊢
    omega
theorem edits_runs.list_length (n : Int) : ∀ (a b : Int) (l : List S48), (edits_runs.list n a b l).length ≤ 2 * l.length + 1
  | a, b, [] => by unfold edits_runs.list; split <;> simp
  | a, b, c :: cs => by
    have ih := edits_runs.list_length n (wrap64 (c.f0 + c.f1)) (wrap64 (c.f2 + c.f3)) cs
    unfold edits_runs.list
    split <;> simp <;> omega
def edits_Keep.f (k : Nat) (l0 : List (S48)) (a1 : Int) (a2 : Int) : Option (List Int × Int) := (edits_Check.f k l0 a1 a2).bind fun e => if e ≠ 0 then some ([], e) else if l0.length ≤ 100000 ∧ a1 ≤ 100000 ∧ ∀ x ∈ edits_runs.list a1 0 0 l0, 0 ≤ x.1.f1 ∧ x.1.f1 ≤ a1 then some ((edits_runs.list a1 0 0 l0).flatMap edits_Keep.part, 0) else none
theorem edits_Keep.info : (Try.prog.info? 3).map (fun i => (i.zero, i.size, i.bytes)) = some (some (.int .i64 0), 1, 8) := by kernel_rfl
theorem keep_base {w : World} {base base' : Nat} {e : TypeId} {size : Nat} {v : Value} {n : Nat} {xs : List Value} (h : w.ownsRow base e size v n xs) (hb : base' ≤ base) : w.ownsRow base' e size v n xs := by
  obtain ⟨h1, h2⟩ := h
  refine ⟨h1, ?_⟩
  rcases h2 with h2 | ⟨g, cap, cur, e1, e2, e3⟩
  · exact .inl h2
  · exact .inr ⟨g, cap, cur, e1, Nat.le_trans hb e2, e3⟩
theorem KpR.alloc {D go : Nat} (W : World) (o : Obj) (hD : D ≤ W.heap.size) : KpR D go W (W.alloc o) :=
  ⟨by simp, fun j hj _ => Below.heap_alloc W o j (by omega), fun j cs hj => (Below.heap_alloc W o j (Array.getElem?_eq_some_iff.1 hj).1).trans hj⟩
def edits_Keep.Got (D go b0 : Nat) (xs : List Int) (W wr : World) : Prop := (∃ v, Boxed wr go 22 v ∧ wr.ownsRow D 3 1 v xs.length (xs.map (Value.int .i64))) ∧ Below b0 W wr ∧ KeepsFrom D W wr ∧ KpR D go W wr ∧ D ≤ wr.heap.size
set_option maxHeartbeats 2000000 in
set_option maxRecDepth 100000 in
theorem edits_Keep.calls (k : Nat) (A0 : Option Addr) (c0 : Nat) (l0 : List (S48)) (a1 : Int) (a2 : Int) (r1 : List Int) (r2 : Int) (w : World) (hr0 : Kd.C k48 w A0 l0.length l0) (hc0 : l0.length ≤ c0) (h : edits_Keep.f k l0 a1 a2 = some (r1, r2)) :
    Calls Try.prog 32 #[.slice A0 l0.length c0, .int .i64 a1, .int .i64 a2] w fun e w' => ∃ v0_ : Value, e = .returned (.tuple #[v0_, .int .i64 r2]) ∧ Kd.R (Kd.int .i64) 3 w' w.heap.size (fun _ => True) v0_ r1 ∧ Below w.heap.size w w' := by
  unfold edits_Keep.f at h
  cases hch : edits_Check.f k l0 a1 a2 with
  | none => rw [hch] at h; cases h
  | some ec =>
  rw [hch, Option.bind_some] at h
  have HR := Aside0.mk hr0
  have HC := Aside0.mk hc0
  have HCH := Aside0.mk hch
  clear hr0 hc0 hch
  refine (callsIn_wide (n := 3)).1 ?_
  refine callsIn_of_wp_marks Try.func32 rfl trivial ?_ rfl
  simp only [Try.ntmps32, List.size_toArray, List.length_cons, List.length_nil, Nat.reduceAdd, Nat.reduceSub, Array.replicate_succ, Array.replicate_zero, List.push_toArray, List.append_toArray, List.nil_append, List.cons_append]
  by_cases he : ec = 0
  case neg =>
    rw [if_pos he] at h
    simp only [Option.some.injEq, Prod.mk.injEq] at h
    obtain ⟨rfl, rfl⟩ := h
    have hb : (ec != 0) = true := bne_iff_ne.mpr he
    clear he
    gi_wp2_with (refine ⟨trivial, ?_⟩; gi_at_call 43; refine (callsIn_wide.2 (edits_Check.calls k A0 c0 l0 a1 a2 ec _ HR.out HC.out HCH.out)).mono ?_; rintro e w1 ⟨rfl, hbl⟩; have HB := Aside0.mk hbl; clear hbl)
    exact ⟨_, results_tmp2 rfl _ _ _, _, rfl, Kd.R_nil _ _ _ _ _, HB.out⟩
  case pos =>
    subst he
    rw [if_neg (by simp)] at h
    by_cases hg : l0.length ≤ 100000 ∧ a1 ≤ 100000 ∧ ∀ x ∈ edits_runs.list a1 0 0 l0, 0 ≤ x.1.f1 ∧ x.1.f1 ≤ a1
    case neg => rw [if_neg hg] at h; cases h
    rw [if_pos hg] at h
    simp only [Option.some.injEq, Prod.mk.injEq] at h
    obtain ⟨hres, rfl⟩ := h
    obtain ⟨hg1, hg2, hg3⟩ := hg
    have HG1 := Aside0.mk hg1
    have HG2 := Aside0.mk hg2
    have HG3 := Aside0.mk hg3
    have HRES := Aside0.mk hres
    clear hg1 hg2 hg3 hres
    gi_wp2_with (first | (refine ⟨trivial, ?_⟩; gi_at_call 43; refine (callsIn_wide.2 (edits_Check.calls k A0 c0 l0 a1 a2 0 _ HR.out HC.out HCH.out)).mono ?_; rintro e w1 ⟨rfl, hbl⟩; have HB := Aside0.mk hbl; clear hbl) | (refine ⟨trivial, ?_⟩; gi_at_call 44; refine (callsIn_wide.2 (edits_runs.calls A0 l0.length c0 a1 _)).mono ?_; rintro e w3 ⟨gl, gn, rfl, hgl, hgn, bl, bn, hbl⟩; have HGL := Aside0.mk hgl; have HGN := Aside0.mk hgn; have BL := Aside0.mk bl; have BN := Aside0.mk bn; have HB2 := Aside0.mk hbl; clear hgl hgn bl bn hbl))
    have HB0 := Aside0.mk (((HB.out.alloc HB.out.size (Obj.cells #[Value.slice none 0 0] 22))).trans (HB2.out.mono (by have := HB.out.size; simp; omega)))
    have BO := Aside0.mk ((show Boxed w3 w1.heap.size 22 (.slice none 0 0) from (HB2.out.block _ (by simp)).trans (Boxed.new w1 22 (.slice none 0 0))))
    have HGO := Aside0.mk HB.out.size
    obtain ⟨go, hgo⟩ : ∃ go, w1.heap.size = go := ⟨_, rfl⟩
    have HGO1 := Aside0.mk (show go < gl by rw [← hgo]; have := HGL.out; simp at this; omega)
    have HGO2 := Aside0.mk (show go < gn by rw [← hgo]; have := HGN.out; simp at this; omega)
    rw [hgo] at BO HGO ⊢
    clear HB HB2 HGL HGN hgo
    obtain ⟨all, hall⟩ : ∃ all : List (Piece a1), all.map (·.1) = edits_runs.list a1 0 0 l0 := ⟨(edits_runs.list a1 0 0 l0).attach.map fun x => ⟨x.1, HG3.out x.1 x.2⟩, by rw [List.map_map]; exact List.attach_map_subtype_val _⟩
    have HALL := Aside0.mk hall
    clear hall
    obtain ⟨i0, hi, hz0, hz1, hz2⟩ := info_parts edits_Keep.info
    refine wpIn_rangeFunc_ownH (w0 := w3) rfl (by decide) (gf := 49) (lb := #[.pointer (some ⟨gl, 0, none⟩), .pointer (some ⟨gn, 0, none⟩)]) rfl trivial (enters_of Try.func49 (by kernel_rfl) rfl)
      (edits_runs_1.stops a1 2 A0 c0 l0 HC.out gl gn go w3.heap.size w w3 all HALL.out HR.out HB0.out.size (Nat.le_refl _) HGO.out HB0.out.block BL.out BN.out BL.out.lt BN.out.lt (by have := HGO1.out; omega) (by have := HGO2.out; omega))
      KpR.trans ?hKb (Below.refl _ _) (fun _ => rfl)
      (fun pre W => (∃ v, Boxed W go 22 v ∧ W.ownsRow w3.heap.size 3 1 v (edits_Keep.col pre).length ((edits_Keep.col pre).map (Value.int .i64)) ∧ True) ∧ Below w.heap.size w W ∧ w3.heap.size ≤ W.heap.size)
      (fun _ _ _ => False)
      (OwnFrom.and (Own.from (holdsRow_own w3.heap.size go 22 3 1 (fun pre => (edits_Keep.col pre).length) (fun pre => (edits_Keep.col pre).map (Value.int .i64)) (fun _ _ => True)) _) ((ownFrom_below (Nat.le_refl _) HB0.out.size).and (fun _ _ _ _ hs hg _ => Nat.le_trans hs hg.size)))
      (fun _ _ _ _ _ hs _ _ => hs)
      ⟨⟨_, BO.out, World.ownsRow_nil _ _ _ _, trivial⟩, HB0.out, Nat.le_refl _⟩
      (fun x a' W => ∃ Bx, W.heap[Bx]? = some (.cells #[.int .i64 x.1.1.f0, .int .i64 x.1.1.f1, .int .i64 x.1.1.f2, .int .i64 x.1.1.f3] 48 (0, 0)) ∧ a' = { tmps := #[.slice A0 l0.length c0, .int .i64 a1, .int .i64 a2, undef, undef, undef, .slice none 0 0, .int .i64 0, .int .i64 0, .pointer (some ⟨go, 0, none⟩), .pointer (some ⟨Bx, 0, none⟩), .bool x.1.2, undef, .slice A0 l0.length c0, .int .i64 a1, .int .i64 a2, .int .i64 0, .int .i64 0, .bool false, undef, .slice A0 l0.length c0, .int .i64 a1, .func (.func 49) #[] #[.pointer (some ⟨gl, 0, none⟩), .pointer (some ⟨gn, 0, none⟩)], (.agg #[.int .i64 x.1.1.f0, .int .i64 x.1.1.f1, .int .i64 x.1.1.f2, .int .i64 x.1.1.f3]), .bool x.1.2, undef, undef, undef, undef, undef, undef, undef, undef, undef, undef, undef, undef, undef, undef, undef, undef, undef, undef], defers := [] })
      ?hAx ?assign ?body ?done ?stop
    case hKb =>
      intro W l o o' hl ho hc hw
      have hlt := (Array.getElem?_eq_some_iff.1 ho).1
      have hg := grownBy_putObj' W l o'
      refine ⟨hg.size, fun j hj _ => hg.block j (by omega) (fun e => by cases e; omega), fun j cs hj => (hg.block j (Array.getElem?_eq_some_iff.1 hj).1 (fun e => ?_)).trans hj⟩
      cases e
      rw [hj] at ho
      cases ho
      cases hc
    case hAx =>
      rintro x a' _ X Y row ⟨Bx, hb, rfl⟩ hg hr
      refine ⟨Bx, (hg.block _ (Array.getElem?_eq_some_iff.1 hb).1 (fun e => ?_)).trans hb, rfl⟩
      obtain ⟨_, o, ho, hc⟩ := hr _ e.symm
      rw [hb] at ho
      cases ho
      cases hc
    case assign =>
      rintro l pre x W K ⟨⟨v, hv, hrow, _⟩, hB, hDW⟩ hK
      unfold encP
      gi_wp2
      exact hK _ _ ((KeepsOthers.alloc _ _).from _) (KpR.alloc W _ hDW) ⟨⟨v, hv.alloc _, hrow.alloc _, trivial⟩, hB.alloc hB.size _, Nat.le_trans hDW (by simp)⟩ ⟨W.heap.size, blk_new W _, rfl⟩
    case body =>
      rintro l pre x a' W hl hrec ⟨⟨v, hv, hrow, _⟩, hB, hDW⟩ ⟨Bx, hbx, rfl⟩ hlt
      have hx2 := x.2.2
      obtain ⟨y, hy⟩ : ∃ y, x.1 = y := ⟨_, rfl⟩
      rw [hy] at hbx hx2 ⊢
      obtain ⟨c, kd⟩ := y
      dsimp only at hbx hx2 ⊢
      have HY := Aside0.mk hy
      have HBX := Aside0.mk hbx
      have HBW := Aside0.mk hB
      have HST := Aside0.mk (show edits_Keep.Got w3.heap.size go w.heap.size (edits_Keep.col pre) W W from ⟨⟨v, hv, hrow⟩, Below.refl _ _, KeepsFrom.refl _ _, ⟨Nat.le_refl _, fun _ _ _ => rfl, fun _ _ h => h⟩, hDW⟩)
      have HPL := Aside0.mk (show (edits_Keep.col pre).length ≤ 20000100000 by
        have h1 := edits_Keep.col_length pre
        have h2 : all.length ≤ 2 * l0.length + 1 := by rw [← List.length_map (f := (·.1)), HALL.out]; exact edits_runs.list_length _ _ _ _
        have h3 := HG1.out
        have h4 := HG2.out
        have h5 : pre.length * a1.toNat ≤ 200001 * 100000 := Nat.mul_le_mul (by omega) (by omega)
        omega)
      have f1 : W.cell? ⟨Bx, 1, none⟩ = some (.int .i64 c.f1) := (blk_cell hbx 1).trans rfl
      have HX := Aside0.mk hx2
      clear hv hrow hB hrec hbx hlt hDW hx2 hy
      gi_wp2
      gi_loopw [12, 27] (fun v12 v27 wr => ∃ i : Nat, v27 = .int .i64 (i : Int) ∧ i ≤ c.f1.toNat ∧ Aside0 (edits_Keep.Got w3.heap.size go w.heap.size (edits_Keep.col pre ++ edits_Keep.first (c, kd) i) W wr)) (fun v12 v27 wr => c.f1.toNat - (intOf v27).toNat)
      case atStart =>
        exact ⟨0, rfl, Nat.zero_le _, ⟨by have h := HST.out; have e : edits_Keep.first (c, kd) 0 = [] := by { cases kd <;> rfl }; rw [e, List.append_nil]; exact h⟩⟩
      case round =>
        obtain ⟨i, rfl, hi1, HG⟩ := hrel
        have hG := HG.out
        unfold edits_Keep.Got at hG
        obtain ⟨⟨v, hv, hrow⟩, hB, hKF, hKP, hDW⟩ := hG
        by_cases hend : i = c.f1.toNat
        · have hp : decide ((i : Int) < c.f1) = false := decide_eq_false (by omega)
          subst hend
          gi_wp2
          have e : edits_Keep.col (pre ++ [x]) = edits_Keep.col pre ++ edits_Keep.first (c, kd) c.f1.toNat := by rw [edits_Keep.col_snoc, HY.out]; rfl
          refine ⟨hKF, hKP, ⟨⟨v, hv, ?_, trivial⟩, HBW.out.trans hB, hDW⟩⟩
          rw [e]
          exact hrow
        · have hp : decide ((i : Int) < c.f1) = true := decide_eq_true (by omega)
          have HXL := Aside0.mk (show (edits_Keep.col pre ++ edits_Keep.first (c, kd) i).length ≤ 20000200000 by have := HX.out; have := HG2.out; have := HPL.out; rw [List.length_append, edits_Keep.first_length]; omega)
          obtain ⟨xs, hxs⟩ : ∃ xs, edits_Keep.col pre ++ edits_Keep.first (c, kd) i = xs := ⟨_, rfl⟩
          rw [hxs] at hrow HXL
          have HXS := Aside0.mk hxs
          have HW := Aside0.mk (show wrap64 ((i : Int) + 1) = (i : Int) + 1 by have := HX.out; have := HG2.out; unfold wrap64; omega)
          clear hxs
          have hc := hv.cell
          have f2 := (blk_cell (hKP.2.2 _ _ HBX.out) 2).trans (show _ = some (Value.int .i64 c.f2) from rfl)
          cases kd
          · gi_wp2_with (gi_at_builtin; refine wpListIn_append_own _ rfl _ _ 22 rfl w3.heap.size 3 i0 (.int .i64 0) 1 8 Try.underlying22 hi hz0 hz1 hz2 rfl (by decide) _ _ _ rfl (hrow.alloc _) ⟨wr.heap.size, 0, none⟩ 1 1 [.int .i64 (-1)] rfl rfl (cell_one_new _ _ _) (by simp [Value.oneCell']) (by have := HXL.out; unfold maxLen; omega) (by have := HXL.out; omega) (by simp; omega) ?_; intro v' w4 hown' hgrow _; obtain ⟨g', cap', rfl⟩ := ownsRow_succ hown'; obtain ⟨hv1, hv2, hr2, hk2, hb2, hkp2⟩ := keep_appended hv hrow hDW HGO.out HB0.out.size hown' hgrow; have hc1 := hv1.cell; have hf1 := hv1.frozen)
            go_roundw
            case measure => rw [HW.out]; simp [intOf]; omega
            case rel =>
              refine ⟨i + 1, by rw [HW.out, Int.natCast_add]; rfl, by omega, ⟨?_⟩⟩
              rw [edits_Keep.first_other, ← List.append_assoc, HXS.out]
              refine ⟨⟨_, hv2, ?_⟩, hB.trans hb2, hKF.trans (hk2.from _), hKP.trans hkp2, Nat.le_trans hDW hk2.size⟩
              simpa using hr2
          · gi_wp2_with (gi_at_builtin; refine wpListIn_append_own _ rfl _ _ 22 rfl w3.heap.size 3 i0 (.int .i64 0) 1 8 Try.underlying22 hi hz0 hz1 hz2 rfl (by decide) _ _ _ rfl (hrow.alloc _) ⟨wr.heap.size, 0, none⟩ 1 1 [.int .i64 (wrap64 (c.f2 + (i : Int)))] rfl rfl (cell_one_new _ _ _) (by simp [Value.oneCell']) (by have := HXL.out; unfold maxLen; omega) (by have := HXL.out; omega) (by simp; omega) ?_; intro v' w4 hown' hgrow _; obtain ⟨g', cap', rfl⟩ := ownsRow_succ hown'; obtain ⟨hv1, hv2, hr2, hk2, hb2, hkp2⟩ := keep_appended hv hrow hDW HGO.out HB0.out.size hown' hgrow; have hc1 := hv1.cell; have hf1 := hv1.frozen)
            go_roundw
            case measure => rw [HW.out]; simp [intOf]; omega
            case rel =>
              refine ⟨i + 1, by rw [HW.out, Int.natCast_add]; rfl, by omega, ⟨?_⟩⟩
              rw [edits_Keep.first_kept, ← List.append_assoc, HXS.out]
              refine ⟨⟨_, hv2, ?_⟩, hB.trans hb2, hKF.trans (hk2.from _), hKP.trans hkp2, Nat.le_trans hDW hk2.size⟩
              simpa using hr2
    case done =>
      rintro D ys W hD rfl ⟨⟨v, hv, hrow, _⟩, hB, hDW⟩ hK
      have f1 := hv.cell
      gi_wp2
      refine ⟨by simp, .inl ⟨_, _, rfl, run_takeDeferred hK, ?_⟩⟩
      refine ⟨_, results_tmp2 rfl _ _ _, v, rfl, ?_, hB.trans (belowK_b (w := w) (Nat.le_refl _) W D _ _ (by have := HB0.out.size; omega) hK rfl rfl)⟩
      have h2 : r1 = edits_Keep.col ys := by
        rw [← HRES.out, ← HALL.out, edits_Keep.col, List.flatMap_map]
      rw [h2]
      exact Kd.R_of_own (keep_base (ownsRow_putObj hrow _ hK rfl) HB0.out.size) (fun _ _ => trivial)
    case stop =>
      rintro D c pre W _ _ h _
      exact h.elim
end Go.Proofs.Ytonbplflmdpikaa.X
