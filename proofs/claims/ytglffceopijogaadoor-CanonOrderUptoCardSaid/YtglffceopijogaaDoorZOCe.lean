/- plain: ignoring more never parts lines -/
import Derived.Test.YtglffceopijogaaDoorZOCd
namespace Go.Proofs.YtglffceopijogaaDoor.Q
set_option linter.unusedVariables false
set_option linter.unusedSimpArgs false
open Go.RowKit Go.Proofs.YtglffceopijogaaDoor.X Go.Proofs.YtglffceopijogaaDoorW.PrintWords Go.Proofs.YtglffceopijogaaDoorW.PrintLast Go.Proofs.YtglffceopijogaaDoorW.PrintMore
namespace C3
open Ca (wb wh T wt sq sp)
theorem low_wb (b : UInt8) : wb (Ct.low b) = wb b := by
  have H : ∀ n : Fin 256, wb (Ct.low (UInt8.ofNat n.val)) = wb (UInt8.ofNat n.val) := by decide +kernel
  have h := H ⟨b.toNat, b.toNat_lt⟩
  rw [UInt8.ofNat_toNat] at h
  exact h
theorem low_low (b : UInt8) : Ct.low (Ct.low b) = Ct.low b := by
  have H : ∀ n : Fin 256, Ct.low (Ct.low (UInt8.ofNat n.val)) = Ct.low (UInt8.ofNat n.val) := by decide +kernel
  have h := H ⟨b.toNat, b.toNat_lt⟩
  rw [UInt8.ofNat_toNat] at h
  exact h
theorem low_ten (b : UInt8) : Ct.low b = 10 ↔ b = 10 := by
  have H : ∀ n : Fin 256, Ct.low (UInt8.ofNat n.val) = 10 ↔ UInt8.ofNat n.val = 10 := by decide +kernel
  have h := H ⟨b.toNat, b.toNat_lt⟩
  rw [UInt8.ofNat_toNat] at h
  exact h
theorem map_filter (l : List UInt8) : (l.map Ct.low).filter (fun b => !wb b) = (l.filter (fun b => !wb b)).map Ct.low := by
  rw [List.filter_map]
  congr 2
  funext b
  show (!wb (Ct.low b)) = !wb b
  rw [low_wb]
theorem map_T : ∀ l : List UInt8, T (l.map Ct.low) = (T l).map Ct.low
  | [] => rfl
  | b :: l => by
    rw [List.map_cons, Ca.T_cons, Ca.T_cons, map_T l, low_wb]
    simp only [List.map_eq_nil_iff]
    split <;> simp
theorem map_wt : ∀ (l : List UInt8) (p : Bool), wt p (l.map Ct.low) = (wt p l).map Ct.low
  | [], p => rfl
  | b :: l, p => by
    have e32 : Ct.low 32 = 32 := by decide
    rw [List.map_cons, wt, wt, low_wb, map_wt l true, map_wt l false]
    split
    · split
      · rfl
      · rw [List.map_cons, e32]
    · rw [List.map_cons]
theorem map_sq (l : List UInt8) : sq (l.map Ct.low) = (sq l).map Ct.low := by rw [← Ca.sq_eq, ← Ca.sq_eq, map_wt, map_T]
theorem sp_T : ∀ (l cur : List UInt8), sp cur (T l) = sp cur l
  | [], cur => rfl
  | b :: l, cur => by
    rw [Ca.T_cons]
    have ih := sp_T l []
    by_cases h : T l = [] ∧ wb b = true
    · rw [if_pos h, sp, sp, if_pos h.2]
      rw [h.1, sp, if_pos rfl] at ih
      rw [← ih]
    · rw [if_neg h, sp, sp, ih, sp_T l (cur ++ [b])]
theorem sq_T (u : List UInt8) : sq (T u) = sq u := by
  unfold sq
  rw [sp_T]
  cases u with
  | nil => rfl
  | cons b l =>
    rw [Ca.T_cons]
    by_cases h : T l = [] ∧ wb b = true
    · have e : Lib.join (sp [] (b :: l)) [32] = [] := by
        rw [← sp_T, Ca.T_cons, if_pos h]; rfl
      rw [if_pos h, e]
      simp
    · rw [if_neg h]
theorem T_end : ∀ (n : Nat) (l : List UInt8), l.length = n → T l = [] ∨ ∃ y b, T l = y ++ [b] ∧ wb b = false := by
  intro n
  induction n with
  | zero =>
    intro l h
    rw [List.eq_nil_of_length_eq_zero h]
    exact .inl rfl
  | succ n ih =>
    intro l h
    rcases List.eq_nil_or_concat l with rfl | ⟨y, b, rfl⟩
    · cases h
    · rw [List.concat_eq_append] at h ⊢
      rw [Ca.T_last]
      rw [List.length_append, List.length_singleton] at h
      by_cases hb : wb b = true
      · rw [if_pos hb]; exact ih y (by omega)
      · rw [if_neg hb]; exact .inr ⟨y, b, rfl, Bool.eq_false_iff.2 hb⟩
theorem wt_snoc {b : UInt8} (hb : wb b = false) : ∀ (l : List UInt8) (p : Bool), wt p (l ++ [b]) = wt p l ++ [b]
  | [], p => by
    rw [List.nil_append, wt, wt, wt, if_neg (by rw [hb]; exact Bool.false_ne_true)]
    rfl
  | c :: l, p => by
    rw [List.cons_append, wt, wt, wt_snoc hb l true, wt_snoc hb l false]
    split
    · split
      · rfl
      · rfl
    · rfl
theorem ten_black : wb 10 = false := by decide
theorem T_snoc {b : UInt8} (hb : wb b = false) (l : List UInt8) : T (l ++ [b]) = l ++ [b] := by
  rw [Ca.T_last, if_neg (by rw [hb]; exact Bool.false_ne_true)]
theorem sq_feed (u : List UInt8) : sq (T u ++ [10]) = sq (T u) ++ [10] := by
  rw [← Ca.sq_eq, wt_snoc ten_black, T_snoc ten_black, ← Ca.sq_eq]
  congr 1
  rcases T_end _ u rfl with h | ⟨y, b, h, hb⟩
  · rw [h]; rfl
  · rw [h, wt_snoc hb, T_snoc hb]
theorem filter_T : ∀ l : List UInt8, (T l).filter (fun b => !wb b) = l.filter (fun b => !wb b)
  | [] => rfl
  | b :: l => by
    have ih := filter_T l
    rw [Ca.T_cons]
    by_cases h : T l = [] ∧ wb b = true
    · rw [if_pos h, List.filter_cons_of_neg (by simp [h.2]), ← ih, h.1]
    · rw [if_neg h]
      by_cases hb : wb b = true
      · rw [List.filter_cons_of_neg (by simp [hb]), List.filter_cons_of_neg (by simp [hb]), ih]
      · rw [List.filter_cons_of_pos (by simp [hb]), List.filter_cons_of_pos (by simp [hb]), ih]
theorem filter_wt : ∀ (l : List UInt8) (p : Bool), (wt p l).filter (fun b => !wb b) = l.filter (fun b => !wb b)
  | [], p => rfl
  | b :: l, p => by
    rw [wt]
    by_cases hb : wb b = true
    · rw [if_pos hb, List.filter_cons_of_neg (by simp [hb])]
      split
      · exact filter_wt l true
      · rw [List.filter_cons_of_neg (by decide)]
        exact filter_wt l true
    · rw [if_neg hb, List.filter_cons_of_pos (by simp [hb]), List.filter_cons_of_pos (by simp [hb]), filter_wt l false]
theorem filter_sq (u : List UInt8) : (sq u).filter (fun b => !wb b) = u.filter (fun b => !wb b) := by rw [← Ca.sq_eq, filter_T, filter_wt]
/-- the text as it counts, and its line feed -/
def fd (s : ByteArray) : List UInt8 := if (bare s).2 = true then [10] else []
def wl (a0 a1 a3 a4 a5 : Bool) (s : ByteArray) : List UInt8 := txl a0 a1 a3 a4 a5 (bare s).1.data.toList ++ fd s
theorem cn_list (a0 a1 a3 a4 a5 : Bool) (s : ByteArray) : (cn a0 a1 a3 a4 a5 s).toList = wl a0 a1 a3 a4 a5 s := by
  rw [Lib.toList_data]
  unfold cn wl fd
  by_cases h : (bare s).2 = true
  · rw [if_pos h, if_pos h, Go.Joins.data_append]
  · rw [if_neg h, if_neg h, List.append_nil]
theorem fd_low (s : ByteArray) : (fd s).map Ct.low = fd s := by
  unfold fd
  split <;> rfl
theorem s5_map (a3 : Bool) (l : List UInt8) : (s5 a3 l).map Ct.low = l.map Ct.low := by
  unfold s5
  split
  · rw [List.map_map]
    congr 1
    funext b
    exact low_low b
  · rfl
/-- case besides -/
theorem wl_case (a0 a1 a3 a4 a5 : Bool) (s : ByteArray) : wl a0 a1 true a4 a5 s = (wl a0 a1 a3 a4 a5 s).map Ct.low := by
  unfold wl txl
  rw [List.map_append, fd_low, s5_map]
  rfl
/-- all white space, out of how much there is -/
theorem wl_white (a3 a4 : Bool) (s : ByteArray) : wl false true a3 a4 false s = (wl true false a3 a4 false s).filter (fun b => !wb b) := by
  have hf : (fd s).filter (fun b => !wb b) = fd s := by
    unfold fd
    split <;> rfl
  unfold wl
  rw [List.filter_append, hf]
  congr 1
  unfold txl
  show s5 a3 ((s1 a4 (bare s).1.data.toList).filter (fun b => !wb b)) = (s5 a3 (sq (s1 a4 (bare s).1.data.toList))).filter (fun b => !wb b)
  unfold s5
  split
  · rw [map_filter, filter_sq]
  · rw [filter_sq]
/-- how much there is, out of what is not at the end -/
theorem wl_space (a3 a4 : Bool) (s : ByteArray) : wl true false a3 a4 false s = sq (wl false false a3 a4 true s) := by
  have h5 : ∀ u : List UInt8, s5 a3 (sq u) = sq (s5 a3 (T u)) ∧ s5 a3 (T u) = T (s5 a3 u) := by
    intro u
    unfold s5
    split
    · rw [map_sq, sq_T, map_T]; exact ⟨rfl, rfl⟩
    · rw [sq_T]; exact ⟨rfl, rfl⟩
  unfold wl txl
  show s5 a3 (sq (s1 a4 (bare s).1.data.toList)) ++ fd s = sq (s5 a3 (T (s1 a4 (bare s).1.data.toList)) ++ fd s)
  obtain ⟨e1, e2⟩ := h5 (s1 a4 (bare s).1.data.toList)
  rw [e1, e2]
  unfold fd
  split
  · rw [sq_feed]
  · rw [List.append_nil, List.append_nil]
theorem ex_snoc (c : UInt8) : ∀ (l acc : List UInt8), Sb.ex (l ++ [c]) acc = if c = 9 then Sb.ex l acc ++ List.replicate (8 - (Sb.ex l acc).length % 8) 32 else Sb.ex l acc ++ [c]
  | [], acc => by
    rw [List.nil_append, Sb.ex, Sb.ex, Sb.ex]
    split <;> rfl
  | b :: l, acc => by
    rw [List.cons_append, Sb.ex, Sb.ex]
    split
    · exact ex_snoc c l _
    · exact ex_snoc c l _
theorem no_ten (a3 a4 : Bool) (l : List UInt8) (h : l.getLast? ≠ some 10) : (s5 a3 (s1 a4 l)).getLast? ≠ some 10 := by
  have h1 : (s1 a4 l).getLast? ≠ some 10 := by
    unfold s1
    split
    · rcases List.eq_nil_or_concat l with rfl | ⟨y, b, rfl⟩
      · rw [Sb.ex]; simp
      · rw [List.concat_eq_append] at h ⊢
        rw [ex_snoc]
        split
        · have e : 8 - (Sb.ex y []).length % 8 = (7 - (Sb.ex y []).length % 8) + 1 := by omega
          rw [e, List.replicate_succ', ← List.append_assoc, List.getLast?_append]
          simp
        · rw [List.getLast?_append] at h ⊢
          simpa using h
    · exact h
  unfold s5
  split
  · rw [List.getLast?_map]
    cases e : (s1 a4 l).getLast? with
    | none => simp
    | some b =>
      rw [e] at h1
      simp only [Option.map_some, ne_eq, Option.some.injEq] at h1 ⊢
      exact fun h2 => h1 ((low_ten b).1 h2)
  · exact h1
theorem fd_of (a3 a4 : Bool) (s : ByteArray) : (wl false false a3 a4 false s).getLast? = some 10 ↔ (bare s).2 = true := by
  have hw : wl false false a3 a4 false s = s5 a3 (s1 a4 (bare s).1.data.toList) ++ fd s := rfl
  rw [hw]
  unfold fd
  by_cases h : (bare s).2 = true
  · rw [if_pos h, List.getLast?_append]
    simp [h]
  · rw [if_neg h, List.append_nil]
    refine ⟨fun h2 => absurd h2 (no_ten a3 a4 _ ?_), fun h2 => absurd h2 h⟩
    unfold bare at h ⊢
    by_cases hb : 0 < s.size ∧ bt s ((s.size - 1 : Nat) : Int) = 10
    · rw [if_pos hb] at h; exact absurd rfl h
    · rw [if_neg hb]
      intro e
      dsimp only at e
      have hl : s.data.toList.length = s.size := (Lib.size_eq s).symm
      rw [List.getLast?_eq_getElem?] at e
      have hp : 0 < s.size := by
        have := (List.getElem?_eq_some_iff.1 e).1
        omega
      refine hb ⟨hp, ?_⟩
      rw [bt_get s (s.size - 1) (by omega), List.getD_eq_getElem?_getD, ← hl, e]
      rfl
/-- white space at the end, out of all of the text -/
theorem wl_trail (a3 a4 : Bool) (a b : ByteArray) (h : wl false false a3 a4 false a = wl false false a3 a4 false b) : wl false false a3 a4 true a = wl false false a3 a4 true b := by
  have hf : (bare a).2 = (bare b).2 := by
    have h1 := fd_of a3 a4 a
    have h2 := fd_of a3 a4 b
    rw [h] at h1
    rw [Bool.eq_iff_iff]
    exact h1.symm.trans h2
  have hfd : fd a = fd b := by unfold fd; rw [hf]
  have h1 : s5 a3 (s1 a4 (bare a).1.data.toList) = s5 a3 (s1 a4 (bare b).1.data.toList) := by
    have e : s5 a3 (s1 a4 (bare a).1.data.toList) ++ fd a = s5 a3 (s1 a4 (bare b).1.data.toList) ++ fd b := h
    rw [hfd] at e
    exact List.append_cancel_right e
  have h5 : ∀ u : List UInt8, s5 a3 (T u) = T (s5 a3 u) := by
    intro u
    unfold s5
    split
    · rw [map_T]
    · rfl
  show s5 a3 (T (s1 a4 (bare a).1.data.toList)) ++ fd a = s5 a3 (T (s1 a4 (bare b).1.data.toList)) ++ fd b
  rw [h5, h5, h1, hfd]
end C3
end Go.Proofs.YtglffceopijogaaDoor.Q
