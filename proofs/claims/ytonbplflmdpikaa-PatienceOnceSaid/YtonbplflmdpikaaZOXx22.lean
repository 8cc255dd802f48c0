import Derived.Test.YtonbplflmdpikaaZOXx0
namespace Go.Proofs.Ytonbplflmdpikaa.X
open Go.RowKit Go.Proofs.YtonbplflmdpikaaW.PrintWords Go.Proofs.YtonbplflmdpikaaW.PrintLast Go.Proofs.YtonbplflmdpikaaW.PrintMore
attribute [local go_sem] max2_int min2_int max_two min_two max_three min_three max_four min_four   -- for this text's walks alone
open Go.Proofs.YtonbplflmdpikaaW.HandWords
set_option linter.unusedVariables false
set_option linter.unusedSimpArgs false
def edits_Make.reach (l : List S48) (a b i k : Int) : List S48 := if i > a ∨ k > b then l ++ [⟨a, wrap64 (i - a), b, wrap64 (k - b)⟩] else l
def edits_Make.go (m : Int) : List Int → Int → List S48 → Int → Int → List S48 × Int
  | [], i, l, a, b => (edits_Make.reach l a b i m, 0)
  | k :: ks, i, l, a, b => if k = -1 then edits_Make.go m ks (wrap64 (i + 1)) l a b else if k < b then ([], 50) else if k ≥ m then ([], 50) else edits_Make.go m ks (wrap64 (i + 1)) (edits_Make.reach l a b i k) (wrap64 (i + 1)) (wrap64 (k + 1))
def edits_Make.f (l0 : List Int) (a1 : Int) : Option (List S48 × Int) := if a1 < 0 then some ([], 50) else if l0.length ≤ 1000000000 then some (edits_Make.go a1 l0 0 [] 0 0) else none
theorem edits_Make.reach_len (l : List S48) (a b i k : Int) : (edits_Make.reach l a b i k).length ≤ l.length + 1 := by unfold edits_Make.reach; split <;> simp
def edits_Make.Reached (ga gb gl base : Nat) (a b : Int) (l : List S48) (w : World) (e : Ending) (w' : World) : Prop := ∃ v', e = .returned (.tuple #[]) ∧ w'.heap[ga]? = some (.cells #[.int .i64 a] 3 (0, 0)) ∧ w'.heap[gb]? = some (.cells #[.int .i64 b] 3 (0, 0)) ∧ w'.heap[gl]? = some (.cells #[v'] 34 (0, 0)) ∧ Kd.R k48 48 w' base (fun _ => True) v' l ∧ Below base w w'
set_option maxHeartbeats 2000000 in
set_option maxRecDepth 100000 in
theorem edits_Make_1.calls (i k a b : Int) (l : List S48) (v : Value) (ga gb gl base : Nat) (w : World) (ha : w.heap[ga]? = some (.cells #[.int .i64 a] 3 (0, 0))) (hb : w.heap[gb]? = some (.cells #[.int .i64 b] 3 (0, 0))) (hl : w.heap[gl]? = some (.cells #[v] 34 (0, 0))) (hab : ga ≠ gb)
    (hR : Kd.R k48 48 w base (fun _ => True) v l) (hla : base ≤ ga) (hlb : base ≤ gb) (hll : base ≤ gl) (hlim : l.length < 4398046511104) :
    Calls Try.prog 39 #[.int .i64 i, .int .i64 k, .pointer (some ⟨ga, 0, none⟩), .pointer (some ⟨gb, 0, none⟩), .pointer (some ⟨gl, 0, none⟩)] w (edits_Make.Reached ga gb gl base (wrap64 (i + 1)) (wrap64 (k + 1)) (edits_Make.reach l a b i k) w) := by
  have f1 : w.cell? ⟨ga, 0, none⟩ = some (.int .i64 a) := (blk_cell ha 0).trans rfl
  have f2 : w.cell? ⟨gb, 0, none⟩ = some (.int .i64 b) := (blk_cell hb 0).trans rfl
  have f3 : w.cell? ⟨gl, 0, none⟩ = some v := (blk_cell hl 0).trans rfl
  have HA := Aside0.mk ha
  have HBb := Aside0.mk hb
  have HL := Aside0.mk hl
  have HAB := Aside0.mk hab
  have HR := Aside0.mk hR
  have HLIM := Aside0.mk hlim
  clear ha hb hl hab hR hlim
  by_cases hc : i > a ∨ k > b
  · have e : edits_Make.reach l a b i k = l ++ [⟨a, wrap64 (i - a), b, wrap64 (k - b)⟩] := by unfold edits_Make.reach; rw [if_pos hc]
    rw [e]
    clear e
    have g3 := blk_frozen HL.out 0
    obtain ⟨n1, hn1⟩ : ∃ x : Int, wrap64 (i - a) = x := ⟨_, rfl⟩
    obtain ⟨n2, hn2⟩ : ∃ x : Int, wrap64 (k - b) = x := ⟨_, rfl⟩
    have hs := HR.out.2
    by_cases h1 : i > a
    all_goals
      first | (have hc1 : decide (a < i) = true := decide_eq_true h1; clear hc h1) | (have hc1 : decide (a < i) = false := decide_eq_false h1; have hc2 : decide (b < k) = true := decide_eq_true (hc.resolve_left h1); clear hc h1)
      go_enter Try.func39, Try.ntmps39
      go_wp2_with (first | ((with_reducible refine gate_builtin (b := .append) (xs := #[.tmp 15, .tmp 25]) rfl ?_); at_builtin; refine Kd.R_append k48 (w0 := w) base rfl (.tmp 15) (.tmp 25) 34 48 (.agg #[(.int .i64 0), (.int .i64 0), (.int .i64 0), (.int .i64 0)]) 32 rfl Try.underlying34 info48 rfl (by decide) (by omega) v l (⟨a, n1, b, n2⟩ : S48) [.int .i64 a, .int .i64 n1, .int .i64 b, .int .i64 n2] (fun _ => True) (fun _ => False) rfl rfl ?aP (fun _ hk => hk.elim) ?aF ?aO ?aB ?aS ?aL ?_; (case aP => exact k48_mkM _ _ _ (⟨a, n1, b, n2⟩ : S48)); (case aB => exact Below.refl _ _); (case aF => exact (fun _ _ => trivial)); (case aO => exact HR.out); (case aS => exact Nat.le_of_lt (Nat.lt_of_le_of_lt hla (blk_lt HA.out))); (case aL => have := HLIM.out; omega); intro v1 w1 ho hb hg hat; obtain ⟨A1, cc1, rfl⟩ := Kd.R_slice ho; rw [show (l ++ [(⟨a, n1, b, n2⟩ : S48)]).length = l.length + 1 from by simp] at ho; have HA1 := Aside0.mk (blk_grown HA.out hg (Kd.R_ne HR.out HA.out (by decide))); have HB1 := Aside0.mk (blk_grown HBb.out hg (Kd.R_ne HR.out HBb.out (by decide))); have HL1 := Aside0.mk (blk_grown HL.out hg (Kd.R_ne HR.out HL.out (by decide))); have HO := Aside0.mk ho; have HW := Aside0.mk hb; clear ho hb hg hat f1 f2 f3 g3; have q1 := (blk_cell HL1.out 0).trans (show _ = some v from rfl); have q2 := blk_frozen HL1.out 0; have q3 := fun u => (blk_cell (blk_far HA1.out (p := ⟨gl, 0, none⟩) (Ne.symm (blk_ne HL1.out HA1.out (by decide))) u) 0).trans (show _ = some (Value.int .i64 a) from rfl); have q4 := fun u => blk_frozen (blk_far HA1.out (p := ⟨gl, 0, none⟩) (Ne.symm (blk_ne HL1.out HA1.out (by decide))) u) 0; have q5 := fun u u2 => (blk_cell (blk_far (blk_far HB1.out (p := ⟨gl, 0, none⟩) (Ne.symm (blk_ne HL1.out HB1.out (by decide))) u) (p := ⟨ga, 0, none⟩) (Ne.symm HAB.out) u2) 0).trans (show _ = some (Value.int .i64 b) from rfl); have q6 := fun u u2 => blk_frozen (blk_far (blk_far HB1.out (p := ⟨gl, 0, none⟩) (Ne.symm (blk_ne HL1.out HB1.out (by decide))) u) (p := ⟨ga, 0, none⟩) (Ne.symm HAB.out) u2) 0))
      repeat (go_quiet (fail); try go_wp2)
      go_end0
      have nla := blk_ne HL1.out HA1.out (by decide)
      have nlb := blk_ne HL1.out HB1.out (by decide)
      subst hn1 hn2
      exact ⟨_, rfl, blk_far (blk_set (blk_far HA1.out (Ne.symm nla) _) 0 _) HAB.out _, blk_set (blk_far (blk_far HB1.out (Ne.symm nlb) _) (Ne.symm HAB.out) _) 0 _, blk_far (blk_far (blk_set HL1.out 0 _) nla _) nlb _, Kd.R_set (Kd.R_set (Kd.R_set HO.out HL1.out (by decide) 0 _) (blk_far HA1.out (Ne.symm nla) _) (by decide) 0 _) (blk_far (blk_far HB1.out (Ne.symm nlb) _) (Ne.symm HAB.out) _) (by decide) 0 _, ((HW.out.setCell hll _).setCell hla _).setCell hlb _⟩
  · have e : edits_Make.reach l a b i k = l := by unfold edits_Make.reach; rw [if_neg hc]
    rw [e]
    clear e
    have hc1 : decide (a < i) = false := decide_eq_false (by omega)
    have hc2 : decide (b < k) = false := decide_eq_false (by omega)
    clear hc
    have g1 := blk_frozen HA.out 0
    have s1 := fun u => (blk_cell (blk_far HBb.out (p := ⟨ga, 0, none⟩) (Ne.symm HAB.out) u) 0).trans (show _ = some (Value.int .i64 b) from rfl)
    have s2 := fun u => blk_frozen (blk_far HBb.out (p := ⟨ga, 0, none⟩) (Ne.symm HAB.out) u) 0
    go_enter Try.func39, Try.ntmps39
    go_wp2
    repeat (go_quiet (fail); try go_wp2)
    go_end0
    exact ⟨v, rfl, blk_far (blk_set HA.out 0 _) HAB.out _, blk_set (blk_far HBb.out (Ne.symm HAB.out) _) 0 _, blk_far (blk_far HL.out (blk_ne HL.out HA.out (by decide)) _) (blk_ne HL.out HBb.out (by decide)) _, Kd.R_set (Kd.R_set HR.out HA.out (by decide) 0 _) (blk_far HBb.out (Ne.symm HAB.out) _) (by decide) 0 _, (Below.refl base w).setCell hla _ |>.setCell hlb _⟩
theorem edits_Make.go_nil (m i : Int) (l : List S48) (a b : Int) : edits_Make.go m [] i l a b = (edits_Make.reach l a b i m, 0) := rfl
set_option maxHeartbeats 2000000 in
set_option maxRecDepth 100000 in
theorem edits_Make.calls (A0 : Option Addr) (c0 : Nat) (l0 : List Int) (a1 : Int) (r1 : List (S48)) (r2 : Int) (w : World) (hr0 : Kd.C (Kd.int .i64) w A0 l0.length l0) (hc0 : l0.length ≤ c0) (h : edits_Make.f l0 a1 = some (r1, r2)) :
    Calls Try.prog 27 #[.slice A0 l0.length c0, .int .i64 a1] w fun e w' => ∃ v0_ : Value, e = .returned (.tuple #[v0_, .int .i64 r2]) ∧ Kd.R k48 48 w' w.heap.size (fun _ => True) v0_ r1 ∧ Below w.heap.size w w' := by
  unfold edits_Make.f at h
  by_cases hneg : a1 < 0
  · rw [if_pos hneg] at h
    simp only [Option.some.injEq, Prod.mk.injEq] at h
    obtain ⟨rfl, rfl⟩ := h
    have hn := decide_eq_true hneg
    clear hneg
    go_enter Try.func27, Try.ntmps27
    go_wp2
    go_ret2
    exact ⟨_, rfl, Kd.R_nil _ _ _ _ _, Below.refl _ _⟩
  rw [if_neg hneg] at h
  by_cases hlen : l0.length ≤ 1000000000
  case neg => rw [if_neg hlen] at h; cases h
  rw [if_pos hlen] at h
  simp only [Option.some.injEq] at h
  have HR0 := Aside0.mk hr0
  have HC0 := Aside0.mk hc0
  have HG := Aside0.mk h
  have hn := decide_eq_false hneg
  have HB := Aside0.mk (Below.refl w.heap.size w)
  clear hr0 hc0 h hneg
  go_enter Try.func27, Try.ntmps27
  go_wp2_with (first | ((with_reducible refine gate_dst (N := 6) rfl ?_); refine box_event ?hg (N := 6) ?hd (cs := #[.slice none 0 0]) (t := 34) ?hr ?_; (case hd => rfl); (case hg => rfl); (case hr => first | (go_simp; done) | (go_simp; rfl)); intro gl hg w1 hbox hb; have n1_ := Aside0.mk (below_step HB.out hb); have GL := Aside0.mk (by rw [hg]; exact HB.out.size : w.heap.size ≤ gl); clear HB; have HB := n1_; clear n1_; have BL := Aside0.mk hbox; clear hbox hg hb) | ((with_reducible refine gate_dst (N := 7) rfl ?_); refine box_event ?hg (N := 7) ?hd (cs := #[.int .i64 0]) (t := 3) ?hr ?_; (case hd => rfl); (case hg => rfl); (case hr => first | (go_simp; done) | (go_simp; rfl)); intro ga hg w2 hbox hb; have n1_ := Aside0.mk (below_step HB.out hb); have GA := Aside0.mk (by rw [hg]; exact HB.out.size : w.heap.size ≤ ga); clear HB; have HB := n1_; clear n1_; have n1_ := Aside0.mk (blk_below BL.out hb); clear BL; have BL := n1_; clear n1_; have BA := Aside0.mk hbox; clear hbox hg hb) | ((with_reducible refine gate_dst (N := 8) rfl ?_); refine box_event ?hg (N := 8) ?hd (cs := #[.int .i64 0]) (t := 3) ?hr ?_; (case hd => rfl); (case hg => rfl); (case hr => first | (go_simp; done) | (go_simp; rfl)); intro gb hg w3 hbox hb; have n1_ := Aside0.mk (below_step HB.out hb); have GB := Aside0.mk (by rw [hg]; exact HB.out.size : w.heap.size ≤ gb); have HNE := Aside0.mk (show ga ≠ gb by rw [hg]; have := blk_lt BA.out; omega); clear HB; have HB := n1_; clear n1_; have n1_ := Aside0.mk (blk_below BL.out hb); clear BL; have BL := n1_; clear n1_; have n1_ := Aside0.mk (blk_below BA.out hb); clear BA; have BA := n1_; clear n1_; have BB := Aside0.mk hbox; clear hbox hg hb; have q1 := (blk_cell BA.out 0).trans (show _ = some (Value.int .i64 0) from rfl); have q2 := blk_frozen BA.out 0; have q3 := fun u => (blk_cell (blk_far BB.out (p := ⟨ga, 0, none⟩) (Ne.symm HNE.out) u) 0).trans (show _ = some (Value.int .i64 0) from rfl); have q4 := fun u => blk_frozen (blk_far BB.out (p := ⟨ga, 0, none⟩) (Ne.symm HNE.out) u) 0))
  clear q1 q2 q3 q4
  go_loopg [17] l0.length (fun q v17 w' => ∃ (z : Int) (l : List S48) (v : Value) (a b : Int), v17 = .int .i64 z ∧ 0 ≤ z ∧ z ≤ 1000000000 ∧ Aside0 (z + (q : Int) = l0.length ∧ l.length ≤ z.toNat) ∧ Aside0 (edits_Make.go a1 (l0.drop z.toNat) z l a b = (r1, r2)) ∧ Aside0 (w'.heap[ga]? = some (.cells #[.int .i64 a] 3 (0, 0))) ∧ Aside0 (w'.heap[gb]? = some (.cells #[.int .i64 b] 3 (0, 0))) ∧ Aside0 (w'.heap[gl]? = some (.cells #[v] 34 (0, 0))) ∧ Aside0 (Kd.R k48 48 w' w.heap.size (fun _ => True) v l) ∧ Aside0 (Below w.heap.size w w'))
  case atStart =>
    exact ⟨0, [], .slice none 0 0, 0, 0, rfl, by omega, by omega, ⟨by omega, by simp⟩, HG, ⟨blk_far (blk_set BA.out 0 _) HNE.out _⟩, ⟨blk_set (blk_far BB.out (Ne.symm HNE.out) _) 0 _⟩, ⟨blk_far (blk_far BL.out (blk_ne BL.out BA.out (by decide)) _) (blk_ne BL.out BB.out (by decide)) _⟩, ⟨Kd.R_nil _ _ _ _ _⟩, ⟨(HB.out.setCell GA.out _).setCell GB.out _⟩⟩
  case round =>
    clear HG BA BB BL HB
    obtain ⟨z, l, v, a, b, rfl, hz1, hz2, HZ, HA, BA, BB, BL, HR, HB⟩ := hrel
    cases gk with
    | zero =>
      have hzl : z = (l0.length : Int) := by have := HZ.out.1; omega
      subst hzl
      have hp : ((l0.length : Int) < (l0.length : Int)) = False := eq_false (Int.lt_irrefl _)
      have h := HA.out
      rw [Int.toNat_natCast, List.drop_length, edits_Make.go_nil] at h
      simp only [Prod.mk.injEq] at h
      obtain ⟨hr, rfl⟩ := h
      have HRR := Aside0.mk hr
      clear hr
      go_wp2_with (go_at_call 39; refine (edits_Make_1.calls _ _ a b l v ga gb gl w.heap.size _ BA.out BB.out BL.out HNE.out HR.out GA.out GB.out GL.out (by have := HZ.out.2; simp at this; omega)).mono ?_; rintro e w4 ⟨v', rfl, ba, bb, bl, hR, hb⟩; have BL1 := Aside0.mk bl; have HR1 := Aside0.mk hR; have HB1 := Aside0.mk hb; clear ba bb bl hR hb; have q1 := (blk_cell BL1.out 0).trans (show _ = some v' from rfl))
      go_ret2
      exact ⟨v', rfl, by rw [← HRR.out]; exact HR1.out, HB.out.trans HB1.out⟩
    | succ q1 =>
      have hzl : decide (z < (l0.length : Int)) = true := decide_eq_true (by have := HZ.out.1; omega)
      have hz3 := of_decide_eq_true hzl
      obtain ⟨ad0, ea0, hx0⟩ := Kd.at_int HR0.out z hz1 hz3
      cases ea0
      have hx := (HB.out.cell (World.block_lt_of_cell? w _ hx0)).trans hx0
      have p1 := eq_true hz1
      have p2 := eq_true hz3
      have f2 := (blk_cell BB.out 0).trans (show _ = some (Value.int .i64 b) from rfl)
      have hd : l0.drop z.toNat = rd l0 z :: l0.drop (z + 1).toNat := by
        rw [show (z + 1).toNat = z.toNat + 1 by omega, List.drop_eq_getElem_cons (by omega)]
        simp [rd, List.getD_eq_getElem?_getD, show z.toNat < l0.length by omega]
      have hw : wrap64 (z + 1) = z + 1 := by unfold wrap64; omega
      have HD := Aside0.mk hd
      have HW := Aside0.mk hw
      obtain ⟨k, hk⟩ : ∃ k, rd l0 z = k := ⟨_, rfl⟩
      have HA2 : Aside0 (edits_Make.go a1 (k :: l0.drop (z + 1).toNat) z l a b = (r1, r2)) := ⟨by have h := HA.out; rw [hd, hk] at h; exact h⟩
      rw [hk] at hx
      clear hd hw hx0 hz3 HA hk
      by_cases hk1 : k = -1
      · have k1 : (k == -1) = true := beq_iff_eq.mpr hk1
        have K1 := Aside0.mk hk1
        clear hk1
        go_wp2
        go_roundg q1
        case measure => omega
        case rel => exact ⟨z + 1, l, v, a, b, rfl, by omega, by have := HZ.out.1; omega, ⟨by have := HZ.out.1; omega, by have := HZ.out.2; omega⟩, ⟨by have h := HA2.out; rw [edits_Make.go, if_pos K1.out, HW.out] at h; exact h⟩, BA, BB, BL, HR, HB⟩
      have k1 : (k == -1) = false := beq_eq_false_iff_ne.mpr hk1
      have K1 := Aside0.mk hk1
      clear hk1
      by_cases hk2 : k < b
      · have k2 := decide_eq_true hk2
        have K2 := Aside0.mk hk2
        clear hk2
        have h := HA2.out
        rw [edits_Make.go, if_neg K1.out, if_pos K2.out] at h
        simp only [Prod.mk.injEq] at h
        obtain ⟨rfl, rfl⟩ := h
        go_wp2
        go_ret2
        exact ⟨_, rfl, Kd.R_nil _ _ _ _ _, HB.out⟩
      have k2 := decide_eq_false hk2
      have K2 := Aside0.mk hk2
      clear hk2
      by_cases hk3 : k ≥ a1
      · have k3 : decide (a1 ≤ k) = true := decide_eq_true hk3
        have K3 := Aside0.mk hk3
        clear hk3
        have h := HA2.out
        rw [edits_Make.go, if_neg K1.out, if_neg (by have := K2.out; omega), if_pos (by have := K3.out; omega)] at h
        simp only [Prod.mk.injEq] at h
        obtain ⟨rfl, rfl⟩ := h
        go_wp2
        go_ret2
        exact ⟨_, rfl, Kd.R_nil _ _ _ _ _, HB.out⟩
      have k3 : decide (a1 ≤ k) = false := decide_eq_false hk3
      have K3 := Aside0.mk hk3
      clear hk3
      go_wp2_with (go_at_call 39; refine (edits_Make_1.calls _ _ a b l v ga gb gl w.heap.size _ BA.out BB.out BL.out HNE.out HR.out GA.out GB.out GL.out (by have := HZ.out.2; omega)).mono ?_; rintro e w4 ⟨v', rfl, ba, bb, bl, hR, hb⟩; have BA1 := Aside0.mk ba; have BB1 := Aside0.mk bb; have BL1 := Aside0.mk bl; have HR1 := Aside0.mk hR; have HB1 := Aside0.mk hb; clear ba bb bl hR hb)
      go_roundg q1
      case measure => omega
      case rel => exact ⟨z + 1, edits_Make.reach l a b z k, v', z + 1, wrap64 (k + 1), rfl, by omega, by have := HZ.out.1; omega, ⟨by have := HZ.out.1; omega, by have := HZ.out.2; have := edits_Make.reach_len l a b z k; omega⟩, ⟨by have h := HA2.out; rw [edits_Make.go, if_neg K1.out, if_neg (by have := K2.out; omega), if_neg (by have := K3.out; omega), HW.out] at h; exact h⟩, ⟨by first | exact BA1.out | (rw [← HW.out]; exact BA1.out)⟩, BB1, BL1, HR1, ⟨HB.out.trans HB1.out⟩⟩
end Go.Proofs.Ytonbplflmdpikaa.X
