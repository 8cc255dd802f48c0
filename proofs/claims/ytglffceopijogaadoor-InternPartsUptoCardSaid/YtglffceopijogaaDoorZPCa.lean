/- plain: what stands between white space, byte by byte: strings.FieldsFunc's pieces -/
import Derived.Lib.SpaceUEq
import Derived.Lib.FieldsP
import Derived.Lib.TrimUEq
import Derived.Lib.Strings
import Derived.Lib.SlTrimSet
import Derived.Lib.Join
namespace Go.Proofs.YtglffceopijogaaDoor.Ca
set_option linter.unusedVariables false
set_option linter.unusedSimpArgs false
/-- white space, but a line feed -/
def wh (n : Nat) : Bool := n == 32 || (n == 9 || (n == 11 || (n == 12 || n == 13)))
def wb (b : UInt8) : Bool := wh b.toNat
theorem wh_far {n : Nat} (h : 128 ≤ n) : wh n = false := by
  unfold wh
  simp
  omega
/-- what stands between white space -/
def sp : List UInt8 → List UInt8 → List (List UInt8)
  | cur, [] => if cur = [] then [] else [cur]
  | cur, b :: l => if wb b = true then (if cur = [] then sp [] l else cur :: sp [] l) else sp (cur ++ [b]) l
theorem sp_black : ∀ (m cur l : List UInt8), (∀ b ∈ m, wb b = false) → sp cur (m ++ l) = sp (cur ++ m) l
  | [], cur, l, _ => by simp
  | b :: m, cur, l, h => by
    rw [List.cons_append, sp, if_neg (by rw [h b (List.mem_cons_self ..)]; exact Bool.false_ne_true), sp_black m (cur ++ [b]) l (fun x hx => h x (List.mem_cons_of_mem _ hx)), List.append_assoc]
    rfl
theorem dec (s : ByteArray) (pos : Nat) (h : pos < s.size) :
    (wh (Utf8.decode s pos).1 = true → (Utf8.decode s pos).2 = 1 ∧ wb (s.data.toList.getD pos 0) = true) ∧
    (wh (Utf8.decode s pos).1 = false → 1 ≤ (Utf8.decode s pos).2 ∧ pos + (Utf8.decode s pos).2 ≤ s.size ∧ ∀ i, i < (Utf8.decode s pos).2 → wb (s.data.toList.getD (pos + i) 0) = false) := by
  have hl : s.data.toList.length = s.size := (Lib.size_eq s).symm
  rw [Lib.decode_N]
  obtain ⟨n, hn⟩ : ∃ n, s.data.toList.length - pos = n := ⟨_, rfl⟩
  obtain ⟨b0, h0⟩ : ∃ b, s.data.toList.getD pos 0 = b := ⟨_, rfl⟩
  obtain ⟨b1, h1⟩ : ∃ b, s.data.toList.getD (pos + 1) 0 = b := ⟨_, rfl⟩
  obtain ⟨b2, h2⟩ : ∃ b, s.data.toList.getD (pos + 2) 0 = b := ⟨_, rfl⟩
  obtain ⟨b3, h3⟩ : ∃ b, s.data.toList.getD (pos + 3) 0 = b := ⟨_, rfl⟩
  rw [hn, h0, h1, h2, h3]
  by_cases hb : b0.toNat < 128
  · rw [Lib.decodeN_ascii n _ _ _ _ hb]
    refine ⟨fun h => ⟨rfl, h⟩, fun h => ⟨Nat.le_refl _, by show pos + 1 ≤ s.size; omega, fun i hi => ?_⟩⟩
    obtain rfl : i = 0 := by have : i < 1 := hi; omega
    rw [Nat.add_zero, h0]
    exact h
  · have hR : 128 ≤ (Lib.decodeN n b0.toNat b1.toNat b2.toNat b3.toNat).1 := by
      rcases Lib.decodeN_cases n b0.toNat b1.toNat b2.toNat b3.toNat with ⟨h, _⟩ | ⟨_, _, _, h, e⟩ | ⟨_, _, _, _, h, e⟩ | ⟨h, _⟩ | e
      · omega
      · rw [e]; exact h
      · rw [e]; show 128 ≤ _; omega
      · omega
      · rw [e]; decide
    have hc := Lib.decodeN_conts n b0.toNat b1.toNat b2.toNat b3.toNat
    have hw := Lib.decodeN_ge1 n b0.toNat b1.toNat b2.toNat b3.toNat
    have hle := Lib.decodeN_le_n' n b0.toNat b1.toNat b2.toNat b3.toNat (by omega)
    obtain ⟨K, hK⟩ : ∃ K, (Lib.decodeN n b0.toNat b1.toNat b2.toNat b3.toNat).2 = K := ⟨_, rfl⟩
    rw [hK] at hc hw hle ⊢
    refine ⟨fun h => (by rw [wh_far hR] at h; cases h), fun _ => ⟨hw, by omega, fun i hi => ?_⟩⟩
    have hi4 : i = 0 ∨ i = 1 ∨ i = 2 ∨ i = 3 := by omega
    rcases hi4 with rfl | rfl | rfl | rfl
    · rw [Nat.add_zero, h0]; exact wh_far (by omega)
    · rw [h1]; exact wh_far (by have := (hc.1 (by omega)).1; omega)
    · rw [h2]; exact wh_far (by have := (hc.2.1 (by omega)).1; omega)
    · rw [h3]; exact wh_far (by have := (hc.2.2.1 (by omega)).1; omega)
theorem ext (s : ByteArray) (a b : Nat) : (s.extract a b).data.toList = (s.data.toList.drop a).take (b - a) := by
  have h := Lib.extract_toList s a b
  rw [Lib.toList_data] at h
  exact h
def cur (l : List UInt8) : Option Nat → Nat → List UInt8
  | none, _ => []
  | some a, pos => (l.drop a).take (pos - a)
theorem spans (s : ByteArray) : ∀ (f pos : Nat) (st : Option Nat) (acc : List (Nat × Nat)), s.size ≤ pos + f → pos ≤ s.size → (∀ a, st = some a → a < pos) →
    (Lib.closeSpans s (Lib.spansFromP wh s f pos st acc)).map (fun x => (s.extract x.1 x.2).data.toList) = acc.map (fun x => (s.extract x.1 x.2).data.toList) ++ sp (cur s.data.toList st pos) (s.data.toList.drop pos) := by
  have hl : s.data.toList.length = s.size := (Lib.size_eq s).symm
  have fin : ∀ (st : Option Nat) (acc : List (Nat × Nat)), (∀ a, st = some a → a < s.size) → (Lib.closeSpans s (acc, st)).map (fun x => (s.extract x.1 x.2).data.toList) = acc.map (fun x => (s.extract x.1 x.2).data.toList) ++ sp (cur s.data.toList st s.size) (s.data.toList.drop s.size) := by
    intro st acc hst
    rw [List.drop_eq_nil_of_le (by omega), sp]
    cases st with
    | none => simp [Lib.closeSpans, cur]
    | some a =>
      have := hst a rfl
      have hne : (s.data.toList.drop a).take (s.size - a) ≠ [] := by
        intro e
        have := congrArg List.length e
        simp only [List.length_take, List.length_drop, List.length_nil] at this
        omega
      rw [cur, if_neg hne]
      simp only [Lib.closeSpans, List.map_append, List.map_cons, List.map_nil, ext]
  intro f
  induction f with
  | zero =>
    intro pos st acc h1 h2 h3
    obtain rfl : pos = s.size := by omega
    exact fin st acc h3
  | succ f ih =>
    intro pos st acc h1 h2 h3
    rw [Lib.spansFromP.eq_def]
    dsimp only
    by_cases hlt : pos < s.size
    case neg =>
      obtain rfl : pos = s.size := by omega
      rw [if_neg hlt]
      exact fin st acc h3
    rw [if_pos hlt]
    have hd := dec s pos hlt
    obtain ⟨R, hR⟩ : ∃ R, (Utf8.decode s pos).1 = R := ⟨_, rfl⟩
    obtain ⟨K, hK⟩ : ∃ K, (Utf8.decode s pos).2 = K := ⟨_, rfl⟩
    rw [hR, hK] at hd ⊢
    have hcons : s.data.toList.drop pos = s.data.toList.getD pos 0 :: s.data.toList.drop (pos + 1) := by
      rw [List.drop_eq_getElem_cons (by omega), List.getD_eq_getElem?_getD, List.getElem?_eq_getElem (by omega), Option.getD_some]
    cases hw : wh R with
    | true =>
      obtain ⟨rfl, hb⟩ := hd.1 hw
      rw [if_pos rfl, hcons, sp, if_pos hb]
      cases st with
      | none =>
        have h := ih (pos + 1) none acc (by omega) (by omega) (by intro a e; cases e)
        rw [cur] at h ⊢
        rw [if_pos rfl]
        exact h
      | some a =>
        have ha := h3 a rfl
        have h := ih (pos + 1) none (acc ++ [(a, pos)]) (by omega) (by omega) (by intro a e; cases e)
        have hne : (s.data.toList.drop a).take (pos - a) ≠ [] := by
          intro e
          have := congrArg List.length e
          simp only [List.length_take, List.length_drop, List.length_nil] at this
          omega
        rw [cur] at h
        rw [cur, if_neg hne]
        refine h.trans ?_
        simp only [List.map_append, List.map_cons, List.map_nil, ext, List.append_assoc, List.singleton_append]
    | false =>
      obtain ⟨k1, k2, k3⟩ := hd.2 hw
      rw [if_neg Bool.false_ne_true]
      have hsplit : s.data.toList.drop pos = (s.data.toList.drop pos).take K ++ s.data.toList.drop (pos + K) := by
        rw [← List.drop_drop, List.take_append_drop]
      have hm : ∀ b ∈ (s.data.toList.drop pos).take K, wb b = false := by
        intro b hb
        obtain ⟨i, hi, e⟩ := List.getElem_of_mem hb
        rw [List.length_take, List.length_drop] at hi
        rw [List.getElem_take, List.getElem_drop] at e
        have h := k3 i (by omega)
        rw [List.getD_eq_getElem?_getD, List.getElem?_eq_getElem (by omega), Option.getD_some, e] at h
        exact h
      rw [hsplit, sp_black _ _ _ hm]
      cases st with
      | none =>
        have h := ih (pos + K) (some pos) acc (by omega) k2 (by intro a e; cases e; omega)
        refine h.trans ?_
        rw [cur, cur, show pos + K - pos = K by omega, List.nil_append]
      | some a =>
        have ha := h3 a rfl
        have h := ih (pos + K) (some a) acc (by omega) k2 (by intro b e; cases e; omega)
        refine h.trans ?_
        rw [cur, cur]
        congr 2
        rw [show pos + K - a = (pos - a) + K by omega, List.take_add, List.drop_drop, show a + (pos - a) = pos by omega]
theorem pieces (s : ByteArray) : (Lib.goFieldsP wh s).map (fun x => x.data.toList) = sp [] s.data.toList := by
  have h := spans s s.size 0 none [] (by omega) (by omega) (by intro a e; cases e)
  unfold Lib.goFieldsP Lib.spansOfP
  rw [List.map_map]
  refine Eq.trans ?_ h
  rfl
theorem sp_flat : ∀ (l cur : List UInt8), (sp cur l).flatten = cur ++ l.filter (fun b => !wb b)
  | [], cur => by
    rw [sp]
    by_cases h : cur = []
    · rw [if_pos h, h]; rfl
    · rw [if_neg h]; simp
  | b :: l, cur => by
    rw [sp]
    by_cases hb : wb b = true
    · rw [if_pos hb, List.filter_cons_of_neg (by simp [hb])]
      by_cases h : cur = []
      · rw [if_pos h, sp_flat l [], h]
      · rw [if_neg h, List.flatten_cons, sp_flat l []]; rfl
    · rw [if_neg hb, List.filter_cons_of_pos (by simp [hb]), sp_flat l (cur ++ [b])]
      simp
theorem flat_map (s : ByteArray) : (Lib.goFieldsP wh s).flatMap (fun x => x.data.toList) = s.data.toList.filter (fun b => !wb b) := by
  have h := sp_flat s.data.toList []
  rw [← pieces, List.nil_append] at h
  rw [← h, List.flatMap_def]
theorem flat_le (s : ByteArray) : ((Lib.goFieldsP wh s).flatMap (fun x => x.data.toList)).length ≤ s.size := by
  rw [flat_map, Lib.size_eq]
  exact List.length_filter_le _ _
theorem sp_len : ∀ (l cur : List UInt8), (sp cur l).length ≤ l.length + 1
  | [], cur => by
    rw [sp]
    split <;> simp
  | b :: l, cur => by
    rw [sp, List.length_cons]
    split
    · split
      · have := sp_len l []; omega
      · rw [List.length_cons]; have := sp_len l []; omega
    · have := sp_len l (cur ++ [b]); omega
theorem join_len : ∀ (xs : List (List UInt8)), (Lib.join xs [32]).length ≤ xs.flatten.length + xs.length
  | [] => by rw [Lib.join_nil]; simp
  | x :: r => by
    have h : ∀ r : List (List UInt8), (Lib.joinTail [32] r).length = r.flatten.length + r.length := by
      intro r
      induction r with
      | nil => rfl
      | cons y r ih =>
        unfold Lib.joinTail at ih ⊢
        rw [List.map_cons, List.flatten_cons, List.length_append, ih, List.flatten_cons, List.length_append, List.length_cons, List.length_append]
        simp only [List.length_cons, List.length_nil]
        omega
    rw [Lib.join_cons, List.length_append, h, List.flatten_cons, List.length_append, List.length_cons]
    omega
theorem sq_len (s : ByteArray) : (Lib.join ((Lib.goFieldsP wh s).map (fun x => x.data.toList)) [32]).length ≤ 2 * s.size + 1 := by
  have h1 := join_len ((Lib.goFieldsP wh s).map (fun x => x.data.toList))
  rw [pieces, sp_flat, List.nil_append] at h1
  have h2 := sp_len s.data.toList []
  have h3 : (s.data.toList.filter (fun b => !wb b)).length ≤ s.data.toList.length := List.length_filter_le _ _
  rw [← Lib.size_eq] at h2 h3
  rw [pieces]
  omega
theorem pc_len (s : ByteArray) : (Lib.goFieldsP wh s).length ≤ s.size + 1 := by
  have h := congrArg List.length (pieces s)
  rw [List.length_map] at h
  rw [h, Lib.size_eq]
  exact sp_len _ _
/-- each run of white space is one blank -/
def sq (l : List UInt8) : List UInt8 :=
  if (match l with | b :: _ => wb b | [] => false) = true ∧ Lib.join (sp [] l) [32] ≠ [] then 32 :: Lib.join (sp [] l) [32] else Lib.join (sp [] l) [32]
end Go.Proofs.YtglffceopijogaaDoor.Ca
