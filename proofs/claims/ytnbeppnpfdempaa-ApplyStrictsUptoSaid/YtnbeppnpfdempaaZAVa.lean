/- plain: which lines of a hunk are right: from the last one on (the program), from the first one on (the reference) -/
import Derived.Test.YtnbeppnpfdempaaZAQa
import Derived.Lib.IndexLaws
import Derived.Test.YtnbeppnpfdempaaZAXx42
import Derived.Test.YtnbeppnpfdempaaZAXx59
import Derived.Test.YtnbeppnpfdempaaZAXx60
import Derived.Test.YtnbeppnpfdempaaZAXx61
namespace Go.Proofs.Ytnbeppnpfdempaa.Q
set_option linter.unusedVariables false
set_option linter.unusedSimpArgs false
open Go.RowKit Go.Proofs.Ytnbeppnpfdempaa.X Go.Proofs.YtnbeppnpfdempaaW.PrintWords Go.Proofs.YtnbeppnpfdempaaW.PrintLast Go.Proofs.YtnbeppnpfdempaaW.PrintMore
namespace H12
abbrev Mk := S76
abbrev zm : Mk := z76
theorem rdMk_nat (l : List Mk) (i : Nat) : rd_T76 l (i : Int) = l.getD i zm := by
  have h : ∀ j : Int, j = (i : Int) → rd_T76 l j = l.getD i zm := by
    intro j h
    subst h
    rfl
  exact h _ rfl
theorem dropMk (l : List Mk) (i : Nat) (h : i < l.length) : l.drop i = l.getD i zm :: l.drop (i + 1) := by
  rw [List.drop_eq_getElem_cons h]; simp [List.getD_eq_getElem?_getD, h]
/-! what came from the last one on -/
def fs2 (s : Option (Bool × Bool)) (m : Mk) : Option (Bool × Bool) := fstep s (0, m)
theorem fstep_any (s : Option (Bool × Bool)) (x : Int × Mk) : fstep s x = fs2 s x.2 := by
  cases s <;> rfl
theorem fold_snd : ∀ (l : List (Int × Mk)) (s : Option (Bool × Bool)), l.foldl fstep s = (l.map (·.2)).foldl fs2 s
  | [], _ => rfl
  | x :: l, s => by rw [List.foldl_cons, List.map_cons, List.foldl_cons, fstep_any]; exact fold_snd l _
theorem bwd_rev (xs : List Mk) : (bwd xs xs.length).map (·.2) = xs.reverse := by
  apply List.ext_getElem
  · simp [bwd]
  · intro i h1 h2
    have hi : i < xs.length := by simpa using h2
    have e : ((xs.length : Int) - 1 - (i : Int)) = ((xs.length - 1 - i : Nat) : Int) := by omega
    simp only [bwd, List.getElem_map, List.getElem_range, List.getElem_reverse]
    rw [e, rdMk_nat]
    simp [List.getD_eq_getElem?_getD, show xs.length - 1 - i < xs.length by omega]
def gf (ms : List Mk) : Option (Bool × Bool) := ms.foldr (fun m s => fs2 s m) (some (false, false))
theorem fst_gf (ms : List Mk) : fst_ (bwd ms ms.length) = gf ms := by
  unfold fst_ gf
  rw [fold_snd, bwd_rev, List.foldl_reverse]
/-! what is right, said plainly -/
def io (m : Mk) : Bool := m.f0 == 32 || m.f0 == 45
def inw (m : Mk) : Bool := m.f0 == 32 || m.f0 == 43
def ixb (s : ByteArray) : Int := Lib.indexByte s.data.toList ((10 : Int).toNat.toUInt8)
def lk (s : ByteArray) : Bool := decide (¬ s.toList = [] ∧ ¬ (0 ≤ ixb s ∧ ixb s < wrap64 ((s.size : Int) - 1)))
def fd (s : ByteArray) : Bool := decide (0 ≤ ixb s)
def RF : List Mk → Bool
  | [] => true
  | m :: l => (lk m.f1 && (io m || inw m)) && (fd m.f1 || !((io m && l.any io) || (inw m && l.any inw))) && RF l
theorem gf_RF : ∀ ms : List Mk, gf ms = if RF ms = true then some (ms.any io, ms.any inw) else none
  | [] => rfl
  | m :: l => by
    have ih := gf_RF l
    have e : gf (m :: l) = fs2 (gf l) m := rfl
    rw [e, ih, show RF (m :: l) = ((lk m.f1 && (io m || inw m)) && (fd m.f1 || !((io m && l.any io) || (inw m && l.any inw))) && RF l) from rfl]
    cases hr : RF l with
    | false => rw [Bool.and_false, if_neg Bool.false_ne_true, if_neg Bool.false_ne_true]; rfl
    | true =>
      rw [if_pos rfl]
      have hf : fs2 (some (l.any io, l.any inw)) m = if (!io m && !inw m) = true ∨ m.f1.toList = [] ∨ (0 ≤ ixb m.f1 ∧ ixb m.f1 < wrap64 ((m.f1.size : Int) - 1)) then none else if ixb m.f1 < 0 ∧ ((io m && l.any io) || (inw m && l.any inw)) = true then none else some (l.any io || io m, l.any inw || inw m) := rfl
      rw [hf, List.any_cons, List.any_cons, Bool.or_comm (l.any io), Bool.or_comm (l.any inw)]
      have h1 : lk m.f1 = true ↔ ¬ m.f1.toList = [] ∧ ¬ (0 ≤ ixb m.f1 ∧ ixb m.f1 < wrap64 ((m.f1.size : Int) - 1)) := by unfold lk; exact decide_eq_true_iff
      have h2 : fd m.f1 = true ↔ 0 ≤ ixb m.f1 := by unfold fd; exact decide_eq_true_iff
      cases hl : lk m.f1 with
      | false =>
        have hb : m.f1.toList = [] ∨ (0 ≤ ixb m.f1 ∧ ixb m.f1 < wrap64 ((m.f1.size : Int) - 1)) := by
          rw [hl] at h1
          by_cases a : m.f1.toList = []
          · exact .inl a
          · exact .inr (Classical.not_not.1 fun b => Bool.noConfusion (h1.2 ⟨a, b⟩))
        rw [if_pos (.inr hb)]
        rfl
      | true =>
        obtain ⟨g1, g2⟩ := h1.1 hl
        by_cases hs : (!io m && !inw m) = true
        · rw [if_pos (.inl hs)]
          have : (io m || inw m) = false := by cases ha : io m <;> cases hb : inw m <;> simp_all
          rw [this]
          rfl
        · rw [if_neg (fun h => h.elim hs (fun h => h.elim g1 g2))]
          have : (io m || inw m) = true := by cases ha : io m <;> cases hb : inw m <;> simp_all
          rw [this]
          generalize ((io m && l.any io) || (inw m && l.any inw)) = b
          cases hd : fd m.f1 with
          | true =>
            have := h2.1 hd
            rw [if_neg (by omega)]
            rfl
          | false =>
            have : ixb m.f1 < 0 := by
              have : ¬ 0 ≤ ixb m.f1 := fun e => by rw [h2.2 e] at hd; cases hd
              omega
            cases b
            · rw [if_neg (by simp)]; rfl
            · rw [if_pos ⟨this, rfl⟩]; rfl
theorem fields_p (a b c d : Int) (ms : List Mk) : hunks_fields.f a b c d ms = some (RF ms) := by
  unfold hunks_fields.f
  rw [fst_gf, gf_RF]
  cases RF ms <;> rfl
/-! the reference -/
theorem bt_ten (s : ByteArray) (i : Nat) (h : i < s.size) : bt s (i : Int) = 10 ↔ s.data.toList[i]? = some 10 := by
  have h1 : bt s (i : Int) = ((s[i]'h).toNat : Int) := (bt_at s (i : Int) (by simpa using h)).symm
  have h2 : s.data.toList[i]? = some (s[i]'h) := by
    rw [Array.getElem?_toList]
    exact Array.getElem?_eq_getElem h
  rw [h1, h2]
  constructor
  · intro e
    have : (s[i]'h).toNat = 10 := by omega
    exact congrArg some (UInt8.toNat_inj.1 this)
  · intro e
    injection e with e
    rw [e]
    rfl
theorem ixb_cases (s : ByteArray) : (ixb s = -1 ∧ ∀ j : Nat, s.data.toList[j]? ≠ some 10) ∨ ∃ o : Nat, ixb s = o ∧ o < s.size ∧ s.data.toList[o]? = some 10 ∧ ∀ j : Nat, j < o → s.data.toList[j]? ≠ some 10 := by
  have hg := Lib.indexByte_ge s.data.toList ((10 : Int).toNat.toUInt8)
  by_cases h : ixb s = -1
  · exact .inl ⟨h, Lib.indexByte_none h⟩
  · refine .inr ⟨(ixb s).toNat, by unfold ixb at h ⊢; omega, ?_⟩
    have hx : Lib.indexByte s.data.toList ((10 : Int).toNat.toUInt8) = ((ixb s).toNat : Nat) := by unfold ixb at h ⊢; omega
    obtain ⟨h1, h2⟩ := Lib.indexByte_some hx
    refine ⟨?_, h1, h2⟩
    have := (List.getElem?_eq_some_iff.1 h1).1
    rw [Lib.size_eq]
    exact this
def lres (s : ByteArray) : Bool × Bool := if lk s = true then (true, fd s) else (false, false)
theorem lne (s : ByteArray) : ¬ s.toList = [] ↔ 0 < s.size := by
  rw [Lib.toList_data, Lib.size_eq]
  exact List.length_pos_iff.symm
theorem line_l (s : ByteArray) (h0 : 0 < s.size) (hs : s.size ≤ 1000000000000000000) : ∀ (d i : Nat), i + d = s.size - 1 → (∀ j : Nat, j < i → s.data.toList[j]? ≠ some 10) → Ev (fun k => redlineref11_line.l0 k s (i : Int)) (lres s) := by
  have w1 : wrap64 ((s.size : Int) - 1) = ((s.size - 1 : Nat) : Int) := by rw [w64 _ (by omega)]; omega
  intro d
  induction d with
  | zero =>
    intro i hi hno
    obtain rfl : i = s.size - 1 := by omega
    apply Ev_unfold
    simp only [redlineref11_line.l0, w1, if_neg (show ¬ ((s.size - 1 : Nat) : Int) < ((s.size - 1 : Nat) : Int) by omega), if_pos (show (0 : Int) ≤ ((s.size - 1 : Nat) : Int) by omega), if_pos (show ((s.size - 1 : Nat) : Int) < (s.size : Int) by omega)]
    have e : lres s = (true, bt s ((s.size - 1 : Nat) : Int) == 10) := by
      have hb := bt_ten s (s.size - 1) (by omega)
      rcases ixb_cases s with ⟨a1, a2⟩ | ⟨o, a1, a2, a3, a4⟩
      · have hl : lk s = true := by unfold lk; rw [decide_eq_true_iff]; exact ⟨(lne s).2 h0, by omega⟩
        have hf : fd s = false := by unfold fd; exact decide_eq_false (by omega)
        unfold lres
        rw [if_pos hl, hf, beq_eq_false_iff_ne.mpr (fun e => a2 _ (hb.1 e))]
      · have ho : o = s.size - 1 := by
          by_cases hlt : o < s.size - 1
          · exact absurd a3 (hno o hlt)
          · omega
        have hl : lk s = true := by unfold lk; rw [decide_eq_true_iff, w1]; exact ⟨(lne s).2 h0, by omega⟩
        have hf : fd s = true := by unfold fd; exact decide_eq_true (by omega)
        unfold lres
        rw [if_pos hl, hf, beq_iff_eq.mpr (hb.2 (ho ▸ a3))]
    rw [e]
    exact Ev.now _
  | succ d ih =>
    intro i hi hno
    apply Ev_unfold
    have o2 : i < 4611686018427387904 := by omega
    have hb := bt_ten s i (by omega)
    simp only [redlineref11_line.l0, w1, if_pos (show (i : Int) < ((s.size - 1 : Nat) : Int) by omega), if_pos (show (0 : Int) ≤ (i : Int) by omega), if_pos (show (i : Int) < (s.size : Int) by omega), wadd i o2]
    by_cases h : bt s (i : Int) = 10
    · simp only [if_pos h]
      have e : lres s = (false, false) := by
        have h1 := hb.1 h
        rcases ixb_cases s with ⟨a1, a2⟩ | ⟨o, a1, a2, a3, a4⟩
        · exact absurd h1 (a2 i)
        · have ho : o = i := by
            rcases Nat.lt_trichotomy o i with hlt | he | hgt
            · exact absurd a3 (hno o hlt)
            · exact he
            · exact absurd h1 (a4 i hgt)
          have hl : ¬ lk s = true := by unfold lk; rw [decide_eq_true_iff, w1]; intro hh; exact hh.2 (by omega)
          unfold lres
          rw [if_neg hl]
      rw [e]
      exact Ev.now _
    · simp only [if_neg h]
      refine ih (i + 1) (by omega) (fun j hj => ?_)
      by_cases he : j = i
      · subst he; exact fun e => h (hb.2 e)
      · exact hno j (by omega)
theorem line_r (s : ByteArray) (hs : s.size ≤ 1000000000000000000) : Ev (fun k => redlineref11_line.f k s) (lres s) := by
  unfold redlineref11_line.f
  by_cases h : s.size = 0
  · have hl : ¬ lk s = true := by unfold lk; rw [decide_eq_true_iff]; intro hh; have := (lne s).1 hh.1; omega
    have e : lres s = (false, false) := by unfold lres; rw [if_neg hl]
    simp only [if_pos (show (s.size : Int) = 0 by omega)]
    rw [e]
    exact Ev.now _
  · simp only [if_neg (show ¬ (s.size : Int) = 0 by omega)]
    exact line_l s (by omega) hs (s.size - 1) 0 (by omega) (fun j hj => by omega)
theorem last_l (sg a b c e : Int) (ms : List Mk) (hl : ms.length ≤ 1000000000000000) : ∀ (d i : Nat), i + d = ms.length → Ev (fun k => redlineref11_last.l0 k sg (i : Int) a b c e ms) (!(ms.drop i).any (fun m => m.f0 == 32 || m.f0 == sg)) := by
  intro d
  induction d with
  | zero =>
    intro i hi
    apply Ev_unfold
    rw [List.drop_eq_nil_of_le (show ms.length ≤ i by omega)]
    simp only [redlineref11_last.l0, if_neg (show ¬ (i : Int) < (ms.length : Int) by omega)]
    exact Ev.now _
  | succ d ih =>
    intro i hi
    apply Ev_unfold
    rw [dropMk ms i (by omega), List.any_cons]
    have o2 : i < 4611686018427387904 := by omega
    simp only [redlineref11_last.l0, if_pos (show (i : Int) < (ms.length : Int) by omega), if_pos (show (0 : Int) ≤ (i : Int) by omega), rdMk_nat, wadd i o2]
    by_cases h1 : (ms.getD i zm).f0 = sg
    · simp only [if_pos h1]
      rw [show ((ms.getD i zm).f0 == sg) = true from beq_iff_eq.mpr h1, Bool.or_true, Bool.true_or, Bool.not_true]
      exact Ev.now _
    · simp only [if_neg h1]
      by_cases h2 : (ms.getD i zm).f0 = 32
      · simp only [if_pos h2]
        rw [show ((ms.getD i zm).f0 == 32) = true from beq_iff_eq.mpr h2, Bool.true_or, Bool.true_or, Bool.not_true]
        exact Ev.now _
      · simp only [if_neg h2]
        rw [show ((ms.getD i zm).f0 == 32) = false from beq_eq_false_iff_ne.mpr h2, show ((ms.getD i zm).f0 == sg) = false from beq_eq_false_iff_ne.mpr h1, Bool.false_or, Bool.false_or]
        exact ih (i + 1) (by omega)
end H12
end Go.Proofs.Ytnbeppnpfdempaa.Q
