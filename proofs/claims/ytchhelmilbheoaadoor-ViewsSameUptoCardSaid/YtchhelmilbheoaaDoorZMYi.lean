/- plain: a text beside itself, laid into one with itself, resolved -/
import Derived.Test.YtchhelmilbheoaaDoorZMYh
import Derived.Test.YtchhelmilbheoaaDoorZMXx24
import Derived.Test.YtchhelmilbheoaaDoorZMXx89
import Derived.Test.YtchhelmilbheoaaDoorZMXx90
namespace Go.Proofs.YtchhelmilbheoaaDoor.Q
set_option linter.unusedVariables false
set_option linter.unusedSimpArgs false
open Go.RowKit Go.Proofs.YtchhelmilbheoaaDoor.X Go.Proofs.YtchhelmilbheoaaDoorW.PrintWords Go.Proofs.YtchhelmilbheoaaDoorW.PrintLast Go.Proofs.YtchhelmilbheoaaDoorW.PrintMore
namespace H27
open H11 (Ch chk)
/-! lines and line feeds -/
theorem ln_row : ∀ (r cur rest : List UInt8), 10 ∉ r → ln cur (r ++ 10 :: rest) = ⟨(cur ++ (r ++ [10])).toArray⟩ :: ln [] rest
  | [], cur, rest, _ => by rw [List.nil_append, ln, if_pos rfl, List.nil_append]
  | c :: r, cur, rest, h => by
    have hc : ¬ c = 10 := fun e => h (by rw [e]; exact List.mem_cons_self ..)
    have hr : 10 ∉ r := fun e => h (List.mem_cons_of_mem _ e)
    rw [List.cons_append, ln, if_neg hc, ln_row r _ rest hr, List.append_assoc]
    rfl
theorem bare_row (r : List UInt8) : H17.bare ⟨(r ++ [10]).toArray⟩ = ⟨r.toArray⟩ := by
  have hz : (⟨(r ++ [10]).toArray⟩ : ByteArray).size = r.length + 1 := by rw [bsz, List.length_append]; rfl
  unfold H17.bare
  have h10 : bt (⟨(r ++ [10]).toArray⟩ : ByteArray) (((⟨(r ++ [10]).toArray⟩ : ByteArray).size - 1 : Nat) : Int) = 10 := by
    rw [bt_ten _ _ (by omega), hz, dl, Nat.add_sub_cancel, List.getElem?_append_right (Nat.le_refl _), Nat.sub_self]
    rfl
  rw [if_pos ⟨by omega, h10⟩, hz]
  apply bytes_eq
  rw [← Lib.toList_data, Lib.extract_toList, dl, dl, List.drop_zero, Nat.add_sub_cancel, Nat.sub_zero, List.take_left]
theorem bare_free (r : List UInt8) (h : 10 ∉ r) : H17.bare ⟨r.toArray⟩ = ⟨r.toArray⟩ := by
  unfold H17.bare
  rw [if_neg]
  rintro ⟨h1, h2⟩
  rw [bt_ten _ _ (by omega), dl] at h2
  exact h (List.mem_of_getElem? h2)
/-- what a line is -/
theorem ln_mem : ∀ (l cur : List UInt8), 10 ∉ cur → ∀ s ∈ ln cur l, 10 ∉ (H17.bare s).data.toList ∧ (∃ z, s.data.toList = (H17.bare s).data.toList ++ z)
  | [], cur, h, s, hs => by
    rw [ln] at hs
    by_cases hc : cur = []
    · rw [if_pos hc] at hs; cases hs
    · rw [if_neg hc] at hs
      obtain rfl := List.mem_singleton.1 hs
      rw [bare_free cur h]
      exact ⟨h, [], (List.append_nil _).symm⟩
  | c :: l, cur, h, s, hs => by
    rw [ln] at hs
    by_cases hc : c = 10
    · rw [if_pos hc] at hs
      rcases List.mem_cons.1 hs with rfl | hs
      · rw [bare_row]
        exact ⟨h, [10], rfl⟩
      · exact ln_mem l [] (by simp) s hs
    · rw [if_neg hc] at hs
      exact ln_mem l _ (by rw [List.mem_append]; rintro (e | e); exact h e; exact hc (List.mem_singleton.1 e).symm) s hs
/-- with a line feed at its end -/
def fin (l : List UInt8) : List UInt8 := if l.getLast? = none ∨ l.getLast? = some 10 then l else l ++ [10]
theorem fin_app (a : List UInt8) (l : List UInt8) : fin (a ++ 10 :: l) = a ++ 10 :: fin l := by
  unfold fin
  cases l with
  | nil => simp
  | cons b l =>
    have e : (a ++ 10 :: b :: l).getLast? = (b :: l).getLast? := by
      simp [List.getLast?_append, List.getLast?_cons]
    rw [e]
    split
    · rfl
    · simp
theorem ln_wh : ∀ (l cur : List UInt8), 10 ∉ cur → wh (ln cur l) = fin (cur ++ l)
  | [], cur, h => by
    rw [ln, List.append_nil]
    by_cases hc : cur = []
    · rw [if_pos hc, hc]; rfl
    · rw [if_neg hc, wh, bare_free cur h, wh]
      unfold fin
      rw [if_neg]
      rintro (e | e)
      · exact hc (List.getLast?_eq_none_iff.1 e)
      · exact h (List.mem_of_getLast? e)
  | c :: l, cur, h => by
    rw [ln]
    by_cases hc : c = 10
    · rw [if_pos hc, wh, bare_row, ln_wh l [] (by simp), hc, fin_app]
      rfl
    · rw [if_neg hc, ln_wh l _ (by rw [List.mem_append]; rintro (e | e); exact h e; exact hc (List.mem_singleton.1 e).symm), List.append_assoc]
      rfl
theorem whole_p (a : ByteArray) (h : a.size ≤ 1048576) : redlinelaw17_whole.f a = some ⟨(fin a.data.toList).toArray⟩ := by
  have hl : a.data.toList.length = a.size := (Lib.size_eq a).symm
  unfold redlinelaw17_whole.f fin
  by_cases h0 : a.toList = []
  · have e : a.data.toList = [] := by rw [← Lib.toList_data]; exact h0
    rw [if_pos h0, if_pos (by rw [e]; exact .inl rfl)]
  · have e : a.data.toList ≠ [] := by rw [← Lib.toList_data]; exact h0
    have hp : 0 < a.size := by rw [← hl]; exact List.length_pos_iff.2 e
    have w1 : wrap64 ((a.size : Int) - 1) = ((a.size - 1 : Nat) : Int) := by rw [w64 _ (by omega)]; omega
    rw [if_neg h0, w1, if_pos (by omega), if_pos (by omega)]
    have hg : a.data.toList.getLast? = a.data.toList[a.size - 1]? := by rw [List.getLast?_eq_getElem?, hl]
    by_cases h10 : bt a ((a.size - 1 : Nat) : Int) = 10
    · rw [if_pos h10, if_pos (by rw [hg]; exact .inr ((bt_ten a _ (by omega)).1 h10))]
    · rw [if_neg h10, if_pos (by omega), if_neg]
      · refine congrArg some (bytes_eq ?_)
        rw [Go.Joins.data_append, dl]
      · rintro (e1 | e1)
        · exact e (List.getLast?_eq_none_iff.1 e1)
        · rw [hg] at e1; exact h10 ((bt_ten a _ (by omega)).2 e1)
/-! rows side by side -/
theorem ex_free : ∀ (l acc : List UInt8), 10 ∉ l → 10 ∉ acc → 10 ∉ Sb.ex l acc
  | [], acc, _, h => h
  | c :: l, acc, h, ha => by
    have hc : ¬ c = 10 := fun e => h (by rw [e]; exact List.mem_cons_self ..)
    have hr : 10 ∉ l := fun e => h (List.mem_cons_of_mem _ e)
    rw [Sb.ex]
    split
    · refine ex_free l _ hr ?_
      rw [List.mem_append]
      rintro (e | e)
      · exact ha e
      · exact absurd (List.eq_of_mem_replicate e) (by decide)
    · refine ex_free l _ hr ?_
      rw [List.mem_append]
      rintro (e | e)
      · exact ha e
      · exact hc (List.mem_singleton.1 e).symm
theorem sh_free (wd : Int) (s : ByteArray) (h : 10 ∉ (H17.bare s).data.toList) : 10 ∉ (V17.sh wd s).data.toList := by
  unfold V17.sh V17.exb
  rw [← Lib.toList_data, Lib.extract_toList, dl]
  intro e
  exact ex_free _ [] h (by simp) (List.mem_of_mem_drop (List.mem_of_mem_take e))
theorem trim_pre (c : UInt8) (l : List UInt8) : ∃ z, l = Lib.trimRightB l c ++ z := by
  refine ⟨(l.reverse.takeWhile (· == c)).reverse, ?_⟩
  unfold Lib.trimRightB
  rw [← List.reverse_append, List.takeWhile_append_dropWhile, List.reverse_reverse]
theorem line_list (wd : Int) (x s y : ByteArray) : (Vs.line wd x s y).data.toList = (x.data.toList ++ List.replicate (wd - (x.size : Int)).toNat 32) ++ (32 :: (s.data.toList ++ 32 :: y.data.toList)) := by
  unfold Vs.line
  rw [Sb.rep_eq]
  simp only [Go.Joins.data_append, dl]
  simp
/-- one row: what it is, and what stands at its sign's place -/
theorem row_same (wd : Int) (h0 : 1 ≤ wd) (h1 : wd ≤ 200) (s : ByteArray) (hs : 10 ∉ (H17.bare s).data.toList) : ∃ r : List UInt8, V17.rw_ wd s V17.sp s = ⟨(r ++ [10]).toArray⟩ ∧ 10 ∉ r ∧ (((r ++ [10]).length : Int) > wd + 2 → (r ++ [10])[wd.toNat + 1]? = some 32) := by
  have hsl := V17.sh_le wd s h0
  obtain ⟨z, hz⟩ := trim_pre 32 (Vs.line wd (V17.sh wd s) V17.sp (V17.sh wd s)).data.toList
  have hl := line_list wd (V17.sh wd s) V17.sp (V17.sh wd s)
  have hf := sh_free wd s hs
  refine ⟨Lib.trimRightB (Vs.line wd (V17.sh wd s) V17.sp (V17.sh wd s)).data.toList 32, ?_, ?_, ?_⟩
  · unfold V17.rw_
    apply bytes_eq
    rw [Go.Joins.data_append, dl, dl]
  · intro e
    have e2 : 10 ∈ (Vs.line wd (V17.sh wd s) V17.sp (V17.sh wd s)).data.toList := by rw [hz]; exact List.mem_append_left _ e
    rw [hl] at e2
    simp only [List.mem_append, List.mem_cons] at e2
    rcases e2 with (e2 | e2) | e2 | e2 | e2 | e2
    · exact hf e2
    · exact absurd (List.eq_of_mem_replicate e2) (by decide)
    · exact absurd e2 (by decide)
    · exact absurd e2 (by decide)
    · exact absurd e2 (by decide)
    · exact hf e2
  · intro hlen
    rw [List.length_append, List.length_singleton] at hlen
    generalize hT : Lib.trimRightB (Vs.line wd (V17.sh wd s) V17.sp (V17.sh wd s)).data.toList 32 = T at hz hlen ⊢
    rw [List.getElem?_append_left (by omega)]
    have e1 : (Vs.line wd (V17.sh wd s) V17.sp (V17.sh wd s)).data.toList[wd.toNat + 1]? = T[wd.toNat + 1]? := by rw [hz, List.getElem?_append_left (by omega)]
    rw [← e1, hl]
    have hP : ((V17.sh wd s).data.toList ++ List.replicate (wd - ((V17.sh wd s).size : Int)).toNat 32).length = wd.toNat := by
      rw [List.length_append, List.length_replicate, ← Lib.size_eq]; omega
    rw [List.getElem?_append_right (by omega), hP, Nat.add_sub_cancel_left]
    rfl
/-- the rows -/
def rowsL (wd : Int) (x : List ByteArray) : Nat → Int → List ByteArray
  | 0, _ => []
  | n + 1, i => V17.rw_ wd (rdOf be x i) V17.sp (rdOf be x i) :: rowsL wd x n (i + 1)
theorem rowsL_len (wd : Int) (x : List ByteArray) : ∀ (n : Nat) (i : Int), (rowsL wd x n i).length = n
  | 0, _ => rfl
  | n + 1, i => by rw [rowsL, List.length_cons, rowsL_len wd x n]
def okrow (wd : Int) (s : ByteArray) : Prop := (s.size : Int) > wd + 2 → s.data.toList[wd.toNat + 1]? = some 32
section
variable {wd : Int} (h0 : 1 ≤ wd) (h1 : wd ≤ 200) {x : List ByteArray} (hx : ∀ s ∈ x, 10 ∉ (H17.bare s).data.toList)
include h0 h1 hx
theorem kept_rows : ∀ (n : Nat) (i : Int), 0 ≤ i → i + n ≤ (x.length : Int) → ln [] (V17.keptT wd x x n i i) = rowsL wd x n i ∧ ∀ s ∈ rowsL wd x n i, okrow wd s
  | 0, i, _, _ => ⟨rfl, fun s h => by cases h⟩
  | n + 1, i, p0, p1 => by
    obtain ⟨q1, q2⟩ := kept_rows n (i + 1) (by omega) (by omega)
    obtain ⟨r, e, hr, hk⟩ := row_same wd h0 h1 (rdOf be x i) (hx _ (V17.rdS_mem p0 (by omega)))
    rw [V17.keptT, rowsL, show H17.be = be from rfl, e, dl]
    refine ⟨?_, ?_⟩
    · rw [List.append_assoc, List.singleton_append, ln_row r [] _ hr, q1]
      rfl
    · intro s hs
      rcases List.mem_cons.1 hs with rfl | hs
      · intro hz
        rw [bsz] at hz
        rw [dl]
        exact hk hz
      · exact q2 s hs
end
/-! commands -/
def n9 : ByteArray := ⟨#[78, 57]⟩
theorem cmd9 : ∀ y ∈ [y0 n9, y1 n9, y2 n9, y3 n9, y4 n9], y.toList.length ≥ 8 ∧ y.toList.head? = some 35 := by
  intro y hy
  simp only [List.mem_cons, List.mem_nil_iff, or_false] at hy
  rcases hy with rfl | rfl | rfl | rfl | rfl <;> rw [Lib.toList_data] <;> exact ⟨by decide +kernel, by decide +kernel⟩
theorem go_plain (x0 x1 x2 x3 x4 : ByteArray) (df : Bool) : ∀ (l : List ByteArray) (i : Int) (acc : List UInt8), (∀ s ∈ l, ¬ s.toList = x0.toList ∧ ¬ s.toList = x1.toList ∧ ¬ s.toList = x2.toList ∧ ¬ s.toList = x3.toList ∧ ¬ s.toList = x4.toList) → Rs.go x0 x1 x2 x3 x4 df l i ⟨#[]⟩ true acc = (⟨(acc ++ (l.map fun s => s.data.toList).flatten).toArray⟩, none)
  | [], i, acc, _ => by
    rw [Rs.go, if_pos (by rw [Lib.toList_data]), List.map_nil, List.flatten_nil, List.append_nil]
  | s :: l, i, acc, h => by
    obtain ⟨k0, k1, k2, k3, k4⟩ := h s (List.mem_cons_self ..)
    rw [Rs.go, if_neg k0, if_neg k1, if_neg k2, if_neg k3, if_neg k4, if_pos rfl, go_plain x0 x1 x2 x3 x4 df l _ _ (fun z hz => h z (List.mem_cons_of_mem _ hz)), List.map_cons, List.flatten_cons, List.append_assoc]
theorem ln_flat : ∀ (l cur : List UInt8), ((ln cur l).map fun s => s.data.toList).flatten = cur ++ l
  | [], cur => by
    rw [ln]
    split
    · rename_i h; rw [h]; rfl
    · simp [dl]
  | c :: l, cur => by
    rw [ln]
    split
    · rename_i h; rw [List.map_cons, List.flatten_cons, ln_flat l [], dl, h]; simp
    · rw [ln_flat l _]; simp
theorem ln_wh_lines : ∀ (x : List ByteArray), (∀ s ∈ x, 10 ∉ (H17.bare s).data.toList) → ln [] (wh x) = x.map fun s => ⟨((H17.bare s).data.toList ++ [10]).toArray⟩
  | [], _ => rfl
  | s :: x, h => by
    rw [wh, ln_row _ [] _ (h s (List.mem_cons_self ..)), ln_wh_lines x (fun z hz => h z (List.mem_cons_of_mem _ hz))]
    rfl
theorem bt_head (s : ByteArray) (h : 0 < s.size) (e : s.data.toList.head? = some 35) : bt s 0 = 35 := by
  have h1 : bt s ((0 : Nat) : Int) = ((s[0]'h).toNat : Int) := (bt_at s ((0 : Nat) : Int) (by simpa using h)).symm
  have h2 : s.data.toList[0]? = some (s[0]'h) := by rw [Array.getElem?_toList]; exact Array.getElem?_eq_getElem h
  rw [← List.head?_eq_getElem?, e] at h2
  injection h2 with h2
  have h3 : bt s 0 = ((s[0]'h).toNat : Int) := h1
  rw [h3, ← h2]
  rfl
theorem resolve_same (x : List ByteArray) (hx : ∀ s ∈ x, 10 ∉ (H17.bare s).data.toList ∧ ∃ z, s.data.toList = (H17.bare s).data.toList ++ z) (hc : ∀ s ∈ x, ¬ ((s.size : Int) > 3 ∧ bt s 0 = 35)) (hz : (wh x).length ≤ 1048576) (b : Bool) : views_ResolveN.f ⟨(wh x).toArray⟩ n9 b = some (⟨(wh x).toArray⟩, none) := by
  unfold views_ResolveN.f
  rw [resolve_p _ n9 b (by rw [bsz]; exact hz) (by decide) (by decide +kernel), bsome, dl, go_plain]
  · rw [ln_flat, List.nil_append, List.nil_append]
  · rw [ln_wh_lines x (fun s hs => (hx s hs).1)]
    intro t ht
    obtain ⟨s, hs, rfl⟩ := List.mem_map.1 ht
    obtain ⟨z, hz⟩ := (hx s hs).2
    have no : ∀ y ∈ [y0 n9, y1 n9, y2 n9, y3 n9, y4 n9], ¬ (⟨((H17.bare s).data.toList ++ [10]).toArray⟩ : ByteArray).toList = y.toList := by
      intro y hy e
      obtain ⟨c1, c2⟩ := cmd9 y hy
      rw [← e, Lib.toList_data, dl] at c1 c2
      rw [List.length_append, List.length_singleton] at c1
      have hlen := congrArg List.length hz
      rw [List.length_append, ← Lib.size_eq s] at hlen
      apply hc s hs
      refine ⟨by omega, bt_head s (by omega) ?_⟩
      rw [hz]
      generalize (H17.bare s).data.toList = B at c1 c2
      cases B with
      | nil => simp at c1
      | cons q B => simpa using c2
    refine ⟨no _ ?_, no _ ?_, no _ ?_, no _ ?_, no _ ?_⟩ <;> simp
/-! the law's function -/
theorem wh_le : ∀ (x : List ByteArray) , (wh x).length ≤ Rs.tot x + x.length
  | [] => by simp [wh]
  | s :: x => by
    have h1 := wh_le x
    have h2 := H17.bare_le s
    rw [wh, Rs.tot, List.length_append, List.length_cons, List.length_cons, ← Lib.size_eq]
    omega
theorem tot_mem : ∀ (x : List ByteArray) (s : ByteArray), s ∈ x → s.size ≤ Rs.tot x
  | [], s, h => by cases h
  | t :: x, s, h => by
    rw [Rs.tot]
    rcases List.mem_cons.1 h with rfl | h
    · omega
    · have := tot_mem x s h; omega
theorem l1_same (x : List ByteArray) (t : ByteArray) (hx : x.length ≤ 1000000) (hres : (∀ s ∈ x, ¬ ((s.size : Int) > 3 ∧ bt s 0 = 35)) → ∀ b, views_ResolveN.f t n9 b = some (t, none)) : ∀ (d i : Nat), i + d = x.length → (∀ j, j < i → ¬ (((x.getD j be).size : Int) > 3 ∧ bt (x.getD j be) 0 = 35)) → Ev (fun k => redlinelaw17_ViewsSame.l1 k x t (i : Int)) true := by
  intro d
  induction d with
  | zero =>
    intro i hi hp
    apply Ev_unfold
    have hr := hres (by
      intro s hs
      obtain ⟨j, hj, rfl⟩ := List.getElem_of_mem hs
      have := hp j (by omega)
      rw [List.getD_eq_getElem?_getD, List.getElem?_eq_getElem hj] at this
      exact this)
    have hr1 : ∀ b, views_ResolveN.f t (⟨#[78, 57]⟩ : ByteArray) b = some (t, none) := hr
    simp only [redlinelaw17_ViewsSame.l1, if_neg (show ¬ (i : Int) < (x.length : Int) by omega), hr1, bsome, Option.isNone_none, if_true, beq_self_eq_true]
    exact Ev.now _
  | succ d ih =>
    intro i hi hp
    apply Ev_unfold
    have o2 : i < 4611686018427387904 := by omega
    simp only [redlinelaw17_ViewsSame.l1, if_pos (show (i : Int) < (x.length : Int) by omega), if_pos (show (0 : Int) ≤ (i : Int) by omega), show ByteArray.empty = be from rfl, rdS_nat, wadd i o2]
    have next : ¬ (((x.getD i be).size : Int) > 3 ∧ bt (x.getD i be) 0 = 35) → Ev (fun k => redlinelaw17_ViewsSame.l1 k x t ((i + 1 : Nat) : Int)) true := by
      intro hn
      refine ih (i + 1) (by omega) ?_
      intro j hj
      rcases Nat.lt_succ_iff_lt_or_eq.1 hj with h | rfl
      · exact hp j h
      · exact hn
    by_cases hc : ((x.getD i be).size : Int) > 3
    · simp only [if_pos hc, if_pos (show (0 : Int) < ((x.getD i be).size : Int) by omega)]
      by_cases h35 : bt (x.getD i be) 0 = 35
      · simp only [if_pos h35]; exact Ev.now _
      · simp only [if_neg h35]; exact next (fun e => h35 e.2)
    · simp only [if_neg hc]; exact next (fun e => hc e.1)
theorem bt_32 (s : ByteArray) (i : Nat) (h : i < s.size) (e : s.data.toList[i]? = some 32) : bt s (i : Int) = 32 := by
  have h1 : bt s (i : Int) = ((s[i]'h).toNat : Int) := (bt_at s (i : Int) (by simpa using h)).symm
  have h2 : s.data.toList[i]? = some (s[i]'h) := by rw [Array.getElem?_toList]; exact Array.getElem?_eq_getElem h
  rw [e] at h2
  injection h2 with h2
  rw [h1, ← h2]
  rfl
theorem l0_same (wd : Int) (h0 : 1 ≤ wd) (h1 : wd ≤ 200) (x : List ByteArray) (t : ByteArray) (R : List ByteArray) (hR : ∀ s ∈ R, okrow wd s) (hl : R.length ≤ 1000000) (hend : Ev (fun k => redlinelaw17_ViewsSame.l1 k x t 0) true) : ∀ (d i : Nat), i + d = R.length → Ev (fun k => redlinelaw17_ViewsSame.l0 k wd x t R (i : Int)) true := by
  intro d
  induction d with
  | zero =>
    intro i hi
    apply Ev_unfold
    simp only [redlinelaw17_ViewsSame.l0, if_neg (show ¬ (i : Int) < (R.length : Int) by omega)]
    exact hend
  | succ d ih =>
    intro i hi
    apply Ev_unfold
    have o2 : i < 4611686018427387904 := by omega
    have hk := hR _ (getS_mem R i (by omega))
    have w1 : wrap64 (wd + 1) = ((wd.toNat + 1 : Nat) : Int) := by rw [w64 _ (by omega)]; omega
    have w2 : wrap64 (wd + 2) = wd + 2 := w64 _ (by omega)
    simp only [redlinelaw17_ViewsSame.l0, if_pos (show (i : Int) < (R.length : Int) by omega), if_pos (show (0 : Int) ≤ (i : Int) by omega), show ByteArray.empty = be from rfl, rdS_nat, wadd i o2, w1, w2]
    by_cases hc : ((R.getD i be).size : Int) > wd + 2
    · have h32 := bt_32 (R.getD i be) (wd.toNat + 1) (by omega) (hk hc)
      simp only [if_pos hc, if_pos (show (0 : Int) ≤ ((wd.toNat + 1 : Nat) : Int) by omega), if_pos (show ((wd.toNat + 1 : Nat) : Int) < ((R.getD i be).size : Int) by omega), if_pos h32]
      exact ih (i + 1) (by omega)
    · simp only [if_neg hc]
      exact ih (i + 1) (by omega)
theorem wd_ok (a : Int) : ∃ wd : Int, wrap64 (1 + (wrap64 (Int.tmod (IntKind.u64.wrap a) 200))) = wd ∧ 1 ≤ wd ∧ wd ≤ 200 := by
  have h0 : 0 ≤ IntKind.u64.wrap a := by
    simp only [IntKind.wrap]
    exact Int.emod_nonneg _ (by decide)
  have h1 : 0 ≤ Int.tmod (IntKind.u64.wrap a) 200 := Int.tmod_nonneg _ h0
  have h2 : Int.tmod (IntKind.u64.wrap a) 200 < 200 := Int.tmod_lt_of_pos _ (by decide)
  generalize Int.tmod (IntKind.u64.wrap a) 200 = m at h1 h2
  rw [w64 m (by omega), w64 (1 + m) (by omega)]
  exact ⟨_, rfl, by omega, by omega⟩
theorem same (a0 : ByteArray) (a1 : Int) (h0 : a0.size ≤ 1048576) : ∃ k, redlinelaw17_ViewsSame.f k a0 a1 = some true := by
  suffices h : Ev (fun k => redlinelaw17_ViewsSame.f k a0 a1) true from h.rounds
  unfold redlinelaw17_ViewsSame.f
  refine Ev.bind works ?_
  simp only [if_true]
  rw [split_p a0 h0]
  simp only [bsome]
  have hmem := ln_mem a0.data.toList [] (by simp)
  have htot := ln_tot a0.data.toList []
  have hwh := ln_wh a0.data.toList [] (by simp)
  have hle := wh_le (ln [] a0.data.toList)
  have htm := tot_mem (ln [] a0.data.toList)
  rw [List.length_nil, ← Lib.size_eq] at htot
  rw [List.nil_append] at hwh
  obtain ⟨x, hx⟩ : ∃ x, ln [] a0.data.toList = x := ⟨_, rfl⟩
  rw [hx] at hmem htot hwh hle htm ⊢
  by_cases hn : (x.length : Int) > 200
  · simp only [if_pos hn]
    apply Ev_unfold
    simp only [redlinelaw17_ViewsSame.j0, if_true]
    exact Ev.now _
  simp only [if_neg hn]
  by_cases hz : (a0.size : Int) > 20000
  · rw [decide_eq_true hz]
    apply Ev_unfold
    simp only [redlinelaw17_ViewsSame.j0, if_true]
    exact Ev.now _
  rw [decide_eq_false hz]
  obtain ⟨wd, hwd, w0, w1⟩ := wd_ok a1
  apply Ev_unfold
  simp only [redlinelaw17_ViewsSame.j0, Bool.false_eq_true, if_false, hwd]
  have hsm : ∀ s ∈ x, s.size ≤ 1048576 := fun s hs => by have := htm s hs; omega
  have hside := V17.prog_side (wd := wd) (a := x) (b := x) w0 w1 hsm hsm (by omega) (by omega) ([] : List Ch) (by simp)
  rw [if_pos (show chk (x.length : Int) (x.length : Int) [] true 0 0 = true by rw [H11.chk]; exact decide_eq_true ⟨by omega, by omega, by omega⟩), V17.runT, show (((x.length : Int) - 0).toNat) = x.length by omega] at hside
  refine Ev.bind hside ?_
  refine Ev.bind (ifdef_none x n9 (by omega) hsm (by omega) (by decide) (by decide +kernel)) ?_
  have hw := whole_p a0 h0
  rw [← hwh] at hw
  simp only [if_true, hw, bsome]
  have hbne : ((⟨(wh x).toArray⟩ : ByteArray).toList != (⟨(wh x).toArray⟩ : ByteArray).toList) = false := bne_self_eq_false _
  rw [hbne]
  apply Ev_unfold
  obtain ⟨r1, r2⟩ := kept_rows w0 w1 (fun s hs => (hmem s hs).1) x.length 0 (by omega) (by omega)
  have hkl := V17.kept_len (wd := wd) (a := x) (b := x) w0 w1 x.length 0 0
  have hsp := split_p ⟨(V17.keptT wd x x x.length 0 0).toArray⟩ (by rw [bsz]; omega)
  rw [dl, r1] at hsp
  have hrl := rowsL_len wd x x.length 0
  simp only [redlinelaw17_ViewsSame.j1, Bool.false_eq_true, if_false, hsp, bsome, hrl, if_true]
  refine l0_same wd w0 w1 x _ _ r2 (by omega) ?_ x.length 0 (by omega)
  exact l1_same x _ (by omega) (fun hc b => resolve_same x hmem hc (by omega) b) x.length 0 (by omega) (fun j hj => absurd hj (Nat.not_lt_zero j))
end H27
end Go.Proofs.YtchhelmilbheoaaDoor.Q
