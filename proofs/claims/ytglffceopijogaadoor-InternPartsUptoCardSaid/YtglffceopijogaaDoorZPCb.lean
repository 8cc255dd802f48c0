/- plain: white space at the end, and each run of it as one blank: two ways that come to the same -/
import Derived.Test.YtglffceopijogaaDoorZPCa
namespace Go.Proofs.YtglffceopijogaaDoor.Ca
set_option linter.unusedVariables false
set_option linter.unusedSimpArgs false
/-- without white space at the end -/
def T (l : List UInt8) : List UInt8 := (l.reverse.dropWhile wb).reverse
theorem contains_wb (b : UInt8) : [32, 9, 11, 12, 13].contains b = wb b := by
  have H : ∀ n : Fin 256, [32, 9, 11, 12, 13].contains (UInt8.ofNat n.val) = wb (UInt8.ofNat n.val) := by decide +kernel
  have h := H ⟨b.toNat, b.toNat_lt⟩
  rw [UInt8.ofNat_toNat] at h
  exact h
theorem T_eq (l : List UInt8) : Lib.trimRightS l [32, 9, 11, 12, 13] = T l := by
  unfold Lib.trimRightS T
  congr 2
  funext b
  exact contains_wb b
theorem T_nil : T [] = [] := rfl
theorem T_cons (b : UInt8) (l : List UInt8) : T (b :: l) = if T l = [] ∧ wb b = true then [] else b :: T l := by
  unfold T
  rw [List.reverse_cons, List.dropWhile_append]
  by_cases h : (l.reverse.dropWhile wb) = []
  · rw [h]
    simp only [List.isEmpty_nil, if_true, List.reverse_nil, true_and]
    by_cases hb : wb b = true
    · rw [if_pos hb]; simp [hb]
    · rw [if_neg hb]; simp [hb]
  · have h2 : (l.reverse.dropWhile wb).isEmpty = false := by
      cases e : l.reverse.dropWhile wb with
      | nil => exact absurd e h
      | cons a t => rfl
    rw [h2, if_neg Bool.false_ne_true, List.reverse_append]
    rw [if_neg (fun h3 => h (by have := congrArg List.reverse h3.1; simpa using this))]
    rfl
theorem T_black {b : UInt8} (l : List UInt8) (h : wb b = false) : T (b :: l) = b :: T l := by
  rw [T_cons, if_neg (fun h2 => by rw [h] at h2; exact Bool.false_ne_true h2.2)]
theorem T_blank (l : List UInt8) : T (32 :: l) = if T l = [] then [] else 32 :: T l := by
  rw [T_cons]
  have : wb 32 = true := by decide
  simp [this]
/-- each run of white space as one blank, the last one too -/
def wt : Bool → List UInt8 → List UInt8
  | _, [] => []
  | p, b :: l => if wb b = true then (if p = true then wt true l else 32 :: wt true l) else b :: wt false l
theorem sp_ne : ∀ (l cur : List UInt8), ∀ x ∈ sp cur l, x ≠ []
  | [], cur, x, h => by
    rw [sp] at h
    by_cases hc : cur = []
    · rw [if_pos hc] at h; cases h
    · rw [if_neg hc] at h; cases h with
      | head => exact hc
      | tail _ h => cases h
  | b :: l, cur, x, h => by
    rw [sp] at h
    split at h
    · split at h
      · exact sp_ne l [] x h
      · rename_i hc
        cases h with
        | head => exact hc
        | tail _ h => exact sp_ne l [] x h
    · exact sp_ne l _ x h
theorem join_ne (xs : List (List UInt8)) (h : ∀ x ∈ xs, x ≠ []) : Lib.join xs [32] = [] ↔ xs = [] := by
  constructor
  · intro e
    cases xs with
    | nil => rfl
    | cons x r =>
      rw [Lib.join_cons] at e
      exact absurd (List.append_eq_nil_iff.1 e).1 (h x (List.mem_cons_self ..))
  · intro e; rw [e]; rfl
theorem tail_join (xs : List (List UInt8)) (h : ∀ x ∈ xs, x ≠ []) : Lib.joinTail [32] xs = if Lib.join xs [32] = [] then [] else 32 :: Lib.join xs [32] := by
  cases xs with
  | nil => rfl
  | cons x r =>
    rw [if_neg (fun e => by have := (join_ne _ h).1 e; cases this), Lib.join_cons]
    simp [Lib.joinTail]
theorem both : ∀ l : List UInt8, (∀ cur, cur ≠ [] → Lib.join (sp cur l) [32] = cur ++ T (wt false l)) ∧ Lib.join (sp [] l) [32] = T (wt true l)
  | [] => ⟨fun cur hc => by rw [sp, if_neg hc, wt, T_nil, Lib.join_one, List.append_nil], by rw [sp, if_pos rfl, wt, T_nil]; rfl⟩
  | b :: l => by
    obtain ⟨iA, iB⟩ := both l
    cases hb : wb b with
    | true =>
      refine ⟨fun cur hc => ?_, ?_⟩
      · rw [sp, if_pos hb, if_neg hc, wt, if_pos hb, if_neg Bool.false_ne_true, Lib.join_cons, tail_join _ (sp_ne l []), T_blank, iB]
      · rw [sp, if_pos hb, if_pos rfl, wt, if_pos hb, if_pos rfl, iB]
    | false =>
      have hn : ¬ wb b = true := by rw [hb]; exact Bool.false_ne_true
      refine ⟨fun cur hc => ?_, ?_⟩
      · rw [sp, if_neg hn, wt, if_neg hn, iA (cur ++ [b]) (by simp), T_black _ hb]
        simp
      · rw [sp, if_neg hn, wt, if_neg hn, List.nil_append, iA [b] (by simp), T_black _ hb]
        rfl
theorem sq_eq (l : List UInt8) : T (wt false l) = sq l := by
  cases l with
  | nil => rfl
  | cons b l =>
    unfold sq
    dsimp only
    by_cases hb : wb b = true
    · rw [wt, if_pos hb, if_neg Bool.false_ne_true, T_blank, ← (both l).2, sp, if_pos hb, if_pos rfl]
      by_cases h : Lib.join (sp [] l) [32] = []
      · rw [if_pos h, if_neg (fun h2 => h2.2 h), h]
      · rw [if_neg h, if_pos ⟨hb, h⟩]
    · rw [wt, if_neg hb, T_black _ (Bool.eq_false_iff.2 hb), if_neg (fun h2 => hb h2.1), sp, if_neg hb, List.nil_append, (both l).1 [b] (by simp)]
      rfl
theorem T_len : ∀ l : List UInt8, (T l).length ≤ l.length
  | [] => by rw [T_nil]; exact Nat.le_refl _
  | b :: l => by
    have := T_len l
    rw [T_cons]
    split
    · simp
    · rw [List.length_cons, List.length_cons]; omega
theorem wt_len : ∀ (l : List UInt8) (p : Bool), (wt p l).length ≤ l.length
  | [], p => by rw [wt]; exact Nat.le_refl _
  | b :: l, p => by
    have h1 := wt_len l true
    have h2 := wt_len l false
    rw [wt]
    split
    · split
      · rw [List.length_cons]; omega
      · rw [List.length_cons, List.length_cons]; omega
    · rw [List.length_cons, List.length_cons]; omega
theorem sq_le (l : List UInt8) : (sq l).length ≤ l.length := by
  rw [← sq_eq]
  exact Nat.le_trans (T_len _) (wt_len _ _)
end Go.Proofs.YtglffceopijogaaDoor.Ca
