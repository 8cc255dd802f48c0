/- Make: the program's edit script of what is kept, for every list and every m. -/
import Derived.Test.YtonbplflmdpikaaZOQa
import Derived.Test.YtonbplflmdpikaaZOXx22
import Derived.Test.YtonbplflmdpikaaZOXx39
import Derived.Test.YtonbplflmdpikaaZOXx40
namespace Go.Proofs.Ytonbplflmdpikaa.Q
set_option linter.unusedVariables false
set_option linter.unusedSimpArgs false
open Go.RowKit Go.Proofs.Ytonbplflmdpikaa.X Go.Proofs.YtonbplflmdpikaaW.PrintWords Go.Proofs.YtonbplflmdpikaaW.PrintLast Go.Proofs.YtonbplflmdpikaaW.PrintMore
abbrev Ch := S48
/-- is this a list of what is kept: rising members above last and below m -/
def okK (m : Int) : List Int → Int → Bool
  | [], _ => true
  | k :: ks, last => if k = -1 then okK m ks last else if k ≤ last then false else if k ≥ m then false else okK m ks k
/-- the changes: behind line a of the one text and b of the other -/
def mk (m : Int) : List Int → Int → Int → Int → List Ch
  | [], i, a, b => if i > a ∨ m > b then [⟨a, i - a, b, m - b⟩] else []
  | k :: ks, i, a, b => if k = -1 then mk m ks (i + 1) a b else (if i > a ∨ k > b then [⟨a, i - a, b, k - b⟩] else []) ++ mk m ks (i + 1) (i + 1) (k + 1)
def make (keep : List Int) (m : Int) : List Ch × Int := if m < 0 then ([], 50) else if okK m keep (-1) then (mk m keep 0 0 0, 0) else ([], 50)
theorem mk_len (m : Int) : ∀ ks i a b, (mk m ks i a b).length ≤ ks.length + 1
  | [], i, a, b => by unfold mk; split <;> simp
  | k :: ks, i, a, b => by
    have h1 := mk_len m ks (i + 1) a b
    have h2 := mk_len m ks (i + 1) (i + 1) (k + 1)
    unfold mk
    split
    · simp; omega
    · split <;> simp <;> omega
theorem go_eq (m : Int) (hm : 0 ≤ m ∧ m ≤ 9223372036854775807) : ∀ (ks : List Int) (i a b : Int) (l : List Ch), 0 ≤ a → a ≤ i → i + ks.length ≤ 2000000000 → 0 ≤ b → b ≤ m →
    edits_Make.go m ks i l a b = if okK m ks (b - 1) then (l ++ mk m ks i a b, 0) else ([], 50)
  | [], i, a, b, l, ha, hai, hi, hb, hbm => by
    simp only [List.length_nil] at hi
    have w1 : wrap64 (i - a) = i - a := w64 _ (by omega)
    have w2 : wrap64 (m - b) = m - b := w64 _ (by omega)
    simp only [edits_Make.go, okK, if_true, edits_Make.reach, mk, w1, w2]
    by_cases h : i > a ∨ m > b
    · rw [if_pos h, if_pos h]
    · rw [if_neg h, if_neg h, List.append_nil]
  | k :: ks, i, a, b, l, ha, hai, hi, hb, hbm => by
    simp only [List.length_cons] at hi
    have w0 : wrap64 (i + 1) = i + 1 := w64 _ (by omega)
    rw [edits_Make.go, okK, mk, w0]
    by_cases h1 : k = -1
    · rw [if_pos h1, if_pos h1, if_pos h1]
      exact go_eq m hm ks (i + 1) a b l ha (by omega) (by omega) hb hbm
    rw [if_neg h1, if_neg h1, if_neg h1]
    by_cases h2 : k < b
    · rw [if_pos h2, if_pos (show k ≤ b - 1 by omega)]; simp
    rw [if_neg h2, if_neg (show ¬ k ≤ b - 1 by omega)]
    by_cases h3 : k ≥ m
    · rw [if_pos h3, if_pos h3]; simp
    rw [if_neg h3, if_neg h3]
    have w1 : wrap64 (i - a) = i - a := w64 _ (by omega)
    have w2 : wrap64 (k - b) = k - b := w64 _ (by omega)
    have w3 : wrap64 (k + 1) = k + 1 := w64 _ (by omega)
    rw [w3, go_eq m hm ks (i + 1) (i + 1) (k + 1) _ (by omega) (by omega) (by omega) (by omega) (by omega), show k + 1 - 1 = k by omega]
    simp only [edits_Make.reach, w1, w2]
    by_cases h : i > a ∨ k > b
    · rw [if_pos h, if_pos h, List.append_assoc]
    · rw [if_neg h, if_neg h, List.nil_append]
theorem make_prog (keep : List Int) (m : Int) (hl : keep.length ≤ 1000000000) (hm : m ≤ 9223372036854775807) : edits_Make.f keep m = some (make keep m) := by
  unfold edits_Make.f make
  by_cases h : m < 0
  · rw [if_pos h, if_pos h]
  · rw [if_neg h, if_neg h, if_pos hl, go_eq m ⟨by omega, hm⟩ keep 0 0 0 [] (by omega) (by omega) (by omega) (by omega) (by omega)]
    rfl
/-! comparing -/
theorem rdCh_nat (l : List Ch) (i : Nat) : rd_T48 l (i : Int) = l.getD i z48 := by
  have h : ∀ j : Int, j = (i : Int) → rd_T48 l j = l.getD i z48 := by
    intro j h
    subst h
    rfl
  exact h _ rfl
theorem same_l (l : List Ch) (hl : l.length ≤ 2000000000) : ∀ d i, l.length - i = d → Ev (fun k => redlineref05_Same.l0 k l l (i : Int)) true := by
  intro d
  induction d with
  | zero =>
    intro i hd
    apply Ev_unfold
    simp only [redlineref05_Same.l0, if_neg (show ¬ (i : Int) < (l.length : Int) by omega)]
    exact Ev.now _
  | succ d ih =>
    intro i hd
    have hw1 : wrap64 ((i : Int) + 1) = ((i + 1 : Nat) : Int) := by rw [w64 _ (by omega)]; omega
    apply Ev_unfold
    simp only [redlineref05_Same.l0, if_pos (show (i : Int) < (l.length : Int) by omega), if_pos (show (0 : Int) ≤ (i : Int) by omega), beq_self_eq_true, Bool.not_true, Bool.or_self, Bool.false_eq_true, if_false, hw1]
    exact ih (i + 1) (by omega)
theorem same_ch (l : List Ch) (hl : l.length ≤ 2000000000) : Ev (fun k => redlineref05_Same.f k l l) true := by
  unfold redlineref05_Same.f
  simp only [if_true]
  exact same_l l hl _ 0 rfl
end Go.Proofs.Ytonbplflmdpikaa.Q
