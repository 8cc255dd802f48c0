/- plain: the first list of choices, by trying on with what is known to fail, and by trying all -/
import Derived.Test.YtglffceopijogaaZSQa
namespace Go.Proofs.Ytglffceopijogaa.Q
set_option linter.unusedVariables false
set_option linter.unusedSimpArgs false
namespace H21
section
variable {P T : Type} (nx : P → T → Bool → T) (ok : T → Bool)
/-- what the choices make -/
def mk : List P → List Bool → T → T
  | p :: ps, r :: rs, s => mk ps rs (nx p s r)
  | _, _, s => s
def first : List P → T → Option (List Bool)
  | [], s => if ok s = true then some [] else none
  | p :: ps, s => match first ps (nx p s false) with
    | some r => some (false :: r)
    | none => match first ps (nx p s true) with
      | some r => some (true :: r)
      | none => none
/-- the k-th row of n choices -/
def bits : Nat → Nat → List Bool
  | 0, _ => []
  | n + 1, k => decide (2 ^ n ≤ k) :: bits n (k % 2 ^ n)
theorem bits_len : ∀ n k, (bits n k).length = n
  | 0, _ => rfl
  | n + 1, k => by rw [bits, List.length_cons, bits_len n]
theorem bits_lo (n k : Nat) (h : k < 2 ^ n) : bits (n + 1) k = false :: bits n k := by
  rw [bits, decide_eq_false (by omega), Nat.mod_eq_of_lt h]
theorem bits_hi (n k : Nat) (h : k < 2 ^ n) : bits (n + 1) (2 ^ n + k) = true :: bits n k := by
  rw [bits, decide_eq_true (by omega), Nat.add_mod_left, Nat.mod_eq_of_lt h]
theorem first_none : ∀ (ps : List P) (s : T), first nx ok ps s = none → ∀ k, k < 2 ^ ps.length → ok (mk nx ps (bits ps.length k) s) = false
  | [], s, h, k, hk => by
    rw [first] at h
    have : ¬ ok s = true := fun e => by rw [if_pos e] at h; cases h
    simp only [List.length_nil, bits, mk]
    exact Bool.eq_false_iff.2 this
  | p :: ps, s, h, k, hk => by
    rw [first] at h
    rw [List.length_cons] at hk ⊢
    have h0 : first nx ok ps (nx p s false) = none := by
      cases e : first nx ok ps (nx p s false) with
      | none => rfl
      | some r => rw [e] at h; cases h
    rw [h0] at h
    have h1 : first nx ok ps (nx p s true) = none := by
      cases e : first nx ok ps (nx p s true) with
      | none => rfl
      | some r => rw [e] at h; cases h
    have hp : 2 ^ (ps.length + 1) = 2 ^ ps.length + 2 ^ ps.length := by rw [Nat.pow_succ]; omega
    by_cases hl : k < 2 ^ ps.length
    · rw [bits_lo _ _ hl, mk]; exact first_none ps _ h0 k hl
    · obtain ⟨j, rfl⟩ : ∃ j, k = 2 ^ ps.length + j := ⟨k - 2 ^ ps.length, by omega⟩
      rw [bits_hi _ _ (by omega), mk]; exact first_none ps _ h1 j (by omega)
theorem first_some : ∀ (ps : List P) (s : T) (rs : List Bool), first nx ok ps s = some rs → ∃ k, k < 2 ^ ps.length ∧ bits ps.length k = rs ∧ ok (mk nx ps rs s) = true ∧ ∀ j, j < k → ok (mk nx ps (bits ps.length j) s) = false
  | [], s, rs, h => by
    rw [first] at h
    by_cases e : ok s = true
    · rw [if_pos e] at h; cases h; exact ⟨0, by simp, rfl, e, fun j hj => by omega⟩
    · rw [if_neg e] at h; cases h
  | p :: ps, s, rs, h => by
    rw [first] at h
    rw [List.length_cons]
    have hp : 2 ^ (ps.length + 1) = 2 ^ ps.length + 2 ^ ps.length := by rw [Nat.pow_succ]; omega
    cases e : first nx ok ps (nx p s false) with
    | some r =>
      rw [e] at h
      cases h
      obtain ⟨k, h1, h2, h3, h4⟩ := first_some ps _ r e
      refine ⟨k, by omega, by rw [bits_lo _ _ h1, h2], by rw [mk]; exact h3, fun j hj => ?_⟩
      rw [bits_lo _ _ (by omega), mk]
      exact h4 j hj
    | none =>
      rw [e] at h
      cases e2 : first nx ok ps (nx p s true) with
      | none => rw [e2] at h; cases h
      | some r =>
        rw [e2] at h
        cases h
        obtain ⟨k, h1, h2, h3, h4⟩ := first_some ps _ r e2
        refine ⟨2 ^ ps.length + k, by omega, by rw [bits_hi _ _ h1, h2], by rw [mk]; exact h3, fun j hj => ?_⟩
        by_cases hl : j < 2 ^ ps.length
        · rw [bits_lo _ _ hl, mk]; exact first_none nx ok ps _ e j hl
        · obtain ⟨i, rfl⟩ : ∃ i, j = 2 ^ ps.length + i := ⟨j - 2 ^ ps.length, by omega⟩
          rw [bits_hi _ _ (by omega), mk]; exact h4 i (by omega)
theorem first_len : ∀ (ps : List P) (s : T) (rs : List Bool), first nx ok ps s = some rs → rs.length = ps.length := by
  intro ps s rs h
  obtain ⟨k, _, h2, _⟩ := first_some nx ok ps s rs h
  rw [← h2, bits_len]
end
end H21
end Go.Proofs.Ytglffceopijogaa.Q
