/- plain: which answers make a text: the closure's answer is the first that there is; so is the reference's -/
import Derived.Test.YtglffceopijogaaZSSb
import Derived.Test.YtglffceopijogaaZSXx22
import Derived.Test.YtglffceopijogaaZSXx24
import Derived.Test.YtglffceopijogaaZSXx31
import Derived.Test.YtglffceopijogaaZSXx32
import Derived.Test.YtglffceopijogaaZSXx34
import Derived.Test.YtglffceopijogaaZSXx4
namespace Go.Proofs.Ytglffceopijogaa.Q
set_option linter.unusedVariables false
set_option linter.unusedSimpArgs false
open Go.RowKit Go.Proofs.Ytglffceopijogaa.X Go.Proofs.YtglffceopijogaaW.PrintWords Go.Proofs.YtglffceopijogaaW.PrintLast Go.Proofs.YtglffceopijogaaW.PrintMore
namespace H21
open H11 (Ch zc Chn Small rdCh_nat dropC chn_of cko)
def nx (p : Pc) (s : ByteArray) (r : Bool) : ByteArray := J (J s p.f0) (if r = true then p.f2 else p.f1)
def okf (want fin s : ByteArray) : Bool := decide (J s fin = want)
def lr (r : Bool) : ByteArray := if r = true then ⟨#[114]⟩ else ⟨#[108]⟩
def pre (want s : ByteArray) : Bool := decide (s.size ≤ want.size ∧ want.extract 0 s.size = s)
theorem prefix_p (want s : ByteArray) : strings_HasPrefix.f want s = some (pre want s) := by
  unfold strings_HasPrefix.f stringslite_HasPrefix.f pre
  by_cases h : (want.size : Int) ≥ (s.size : Int)
  · rw [if_pos h, if_pos (by omega), if_pos (by omega), bsome, Int.toNat_natCast]
    by_cases e : want.extract 0 s.size = s
    · rw [decide_eq_true ⟨by omega, e⟩, beq_iff_eq.mpr (by rw [e])]
    · rw [decide_eq_false (fun h => e h.2), beq_eq_false_iff_ne.mpr (fun h => e ((str_eq _ _).1 h))]
  · rw [if_neg h, bsome, decide_eq_false (fun h => by omega)]
theorem app_pre (s u : ByteArray) : pre (s ++ u) s = true := by
  unfold pre
  refine decide_eq_true ⟨by rw [ByteArray.size_append]; omega, ?_⟩
  apply bytes_eq
  have h := Lib.extract_toList (s ++ u) 0 s.size
  rw [Lib.toList_data] at h
  rw [h, Go.Joins.data_append, List.drop_zero, Nat.sub_zero, Lib.size_eq]
  simp
theorem mk_pre : ∀ (ps : List Pc) (rs : List Bool) (s : ByteArray), ∃ u, mk nx ps rs s = s ++ u
  | [], rs, s => ⟨be, by
    have h : mk nx [] rs s = s := by cases rs <;> rfl
    rw [h]
    apply bytes_eq
    rw [Go.Joins.data_append]
    simp [be]⟩
  | p :: ps, [], s => ⟨be, by
    have h : mk nx (p :: ps) [] s = s := rfl
    rw [h]
    apply bytes_eq
    rw [Go.Joins.data_append]
    simp [be]⟩
  | p :: ps, r :: rs, s => by
    rw [mk]
    obtain ⟨u1, h1⟩ := J_pre s p.f0
    obtain ⟨u2, h2⟩ := J_pre (J s p.f0) (if r = true then p.f2 else p.f1)
    obtain ⟨u3, h3⟩ := mk_pre ps rs (nx p s r)
    refine ⟨u1 ++ (u2 ++ u3), ?_⟩
    rw [h3]
    unfold nx
    rw [h2, h1]
    apply bytes_eq
    simp only [Go.Joins.data_append, List.append_assoc]
theorem first_pre (want fin : ByteArray) (ps : List Pc) (s : ByteArray) (h : pre want s = false) : first nx (okf want fin) ps s = none := by
  cases e : first nx (okf want fin) ps s with
  | none => rfl
  | some rs =>
    obtain ⟨k, h1, h2, h3, h4⟩ := first_some nx (okf want fin) ps s rs e
    obtain ⟨u, hu⟩ := mk_pre ps rs s
    have h5 : J (mk nx ps rs s) fin = want := of_decide_eq_true h3
    obtain ⟨u2, hu2⟩ := J_pre (mk nx ps rs s) fin
    have h6 : want = s ++ (u ++ u2) := by
      rw [← h5, hu2, hu]
      apply bytes_eq
      simp only [Go.Joins.data_append, List.append_assoc]
    rw [h6, app_pre] at h
    cases h
section
variable (want fin : ByteArray) (P : List Pc) (hw : want.size ≤ 10000000) (hf : fin.size ≤ 100000000) (hP : ∀ p ∈ P, p.f0.size ≤ 100000000 ∧ p.f1.size ≤ 100000000 ∧ p.f2.size ≤ 100000000)
/-- what is known to fail does -/
def Sound (F : Int → Int → Bool) : Prop := ∀ (j : Nat) (m : Int), 0 ≤ m → m ≤ (want.size : Int) → F (j : Int) m = true → first nx (okf want fin) (P.drop j) (want.extract 0 m.toNat) = none
/-- one answer for one piece -/
theorem step (ps : List Pc) (p : Pc) (i : Nat) (s : ByteArray) (hs : s.size ≤ 10000000) (hp : p.f0.size ≤ 100000000 ∧ p.f1.size ≤ 100000000 ∧ p.f2.size ≤ 100000000) (hw : want.size ≤ 10000000)
    (rc : Int → (Int → Int → Bool) → List ByteArray → Option (Bool × (Int → Int → Bool) × List ByteArray))
    (hrc : ∀ (n : Int) (F : Int → Int → Bool) (out : List ByteArray), out.length = i + 1 → 0 ≤ n → n ≤ (want.size : Int) → Sound want fin P F → ∃ R, rc n F out = some R ∧ Sound want fin P R.2.1 ∧
      (match first nx (okf want fin) ps (want.extract 0 n.toNat) with | some rs => R.1 = true ∧ R.2.2 = out ++ rs.map lr | none => R.1 = false ∧ i + 1 ≤ R.2.2.length ∧ R.2.2.take (i + 1) = out))
    (r : Bool) (xs : List ByteArray) (F : Int → Int → Bool) (out o0 : List ByteArray) (hF : Sound want fin P F) (hil : i ≤ out.length) (ho : out.take i = o0) :
    (∃ rs F', first nx (okf want fin) ps (nx p s r) = some rs ∧ Sound want fin P F' ∧ sa_cs want p s i rc (lr r :: xs) F out = some (true, F', o0 ++ lr r :: rs.map lr)) ∨
    (first nx (okf want fin) ps (nx p s r) = none ∧ ∃ F' out', Sound want fin P F' ∧ i ≤ out'.length ∧ out'.take i = o0 ∧ sa_cs want p s i rc (lr r :: xs) F out = sa_cs want p s i rc xs F' out') := by
  have h1 : sdiff_answered.f (lr r) p.f1 p.f2 = some (if r = true then p.f2 else p.f1, true) := by
    unfold sdiff_answered.f lr
    cases r
    · rw [if_neg Bool.false_ne_true, if_neg Bool.false_ne_true, if_pos (by rw [Lib.toList_data])]
    · rw [if_pos rfl, if_pos rfl, if_neg (by rw [Lib.toList_data]; decide), if_pos (by rw [Lib.toList_data])]
  have h2 := J_joined s p.f0 (by omega) (by omega)
  have z2 := J_size s p.f0
  have h3 : sdiff_joined.f (J s p.f0) (if r = true then p.f2 else p.f1) = some (nx p s r) := J_joined _ _ (by omega) (by split <;> omega)
  have hol : o0.length = i := by rw [← ho, List.length_take]; omega
  rw [sa_cs, h1, bsome, h2, bsome]
  dsimp only
  rw [h3, bsome, prefix_p, bsome]
  cases hp2 : pre want (nx p s r) with
  | false =>
    right
    refine ⟨first_pre want fin ps _ hp2, F, out, hF, hil, ho, ?_⟩
    rw [if_neg Bool.false_ne_true]
  | true =>
    have hq := of_decide_eq_true hp2
    rw [if_pos rfl, if_pos hil, ho]
    obtain ⟨R, e1, e2, e3⟩ := hrc ((nx p s r).size : Int) F (o0 ++ [lr r]) (by rw [List.length_append, hol]; rfl) (by omega) (by omega) hF
    rw [Int.toNat_natCast, hq.2] at e3
    rw [e1, bsome]
    cases hfst : first nx (okf want fin) ps (nx p s r) with
    | some rs =>
      rw [hfst] at e3
      left
      refine ⟨rs, R.2.1, rfl, e2, ?_⟩
      rw [if_pos e3.1]
      obtain ⟨a, b, c⟩ := R
      obtain ⟨rfl, rfl⟩ := e3
      simp
    | none =>
      rw [hfst] at e3
      right
      refine ⟨rfl, R.2.1, R.2.2, e2, by have := e3.2.1; omega, ?_, ?_⟩
      · have h := congrArg (List.take i) e3.2.2
        rw [List.take_take, Nat.min_eq_left (by omega)] at h
        rw [h, List.take_append_of_le_length (by omega), List.take_of_length_le (by omega)]
      · rw [if_neg (by rw [e3.1]; exact Bool.false_ne_true)]
include hw hf hP
theorem try_spec : ∀ (ps : List Pc) (i : Nat) (n : Int) (F : Int → Int → Bool) (out : List ByteArray), P.drop i = ps → out.length = i → 0 ≤ n → n ≤ (want.size : Int) → Sound want fin P F →
    ∃ R, sa_try want fin ps i n F out = some R ∧ Sound want fin P R.2.1 ∧ (match first nx (okf want fin) ps (want.extract 0 n.toNat) with | some rs => R.1 = true ∧ R.2.2 = out ++ rs.map lr | none => R.1 = false ∧ i ≤ R.2.2.length ∧ R.2.2.take i = out)
  | [], i, n, F, out, hd, ho, h0, h1, hF => by
    have hz : (want.extract 0 n.toNat).size ≤ 10000000 := by rw [ByteArray.size_extract]; omega
    rw [sa_try, if_pos ⟨h0, h1⟩, J_joined _ _ (by omega) (by omega), bsome]
    refine ⟨_, rfl, hF, ?_⟩
    rw [first]
    unfold okf
    by_cases e : J (want.extract 0 n.toNat) fin = want
    · rw [decide_eq_true e, if_pos rfl]
      exact ⟨beq_iff_eq.mpr (by rw [e]), by simp⟩
    · rw [decide_eq_false e, if_neg Bool.false_ne_true]
      exact ⟨beq_eq_false_iff_ne.mpr (fun h => e ((str_eq _ _).1 h)), by show i ≤ out.length; omega, List.take_of_length_le (by show out.length ≤ i; omega)⟩
  | p :: ps, i, n, F, out, hd, ho, h0, h1, hF => by
    have hz : (want.extract 0 n.toNat).size ≤ 10000000 := by rw [ByteArray.size_extract]; omega
    have hpm : p ∈ P := by have h : p ∈ P.drop i := by rw [hd]; exact List.mem_cons_self ..
                           exact List.mem_of_mem_drop h
    have hdn : P.drop (i + 1) = ps := by rw [← List.drop_drop, hd]; rfl
    rw [sa_try, if_pos ⟨h0, h1⟩]
    obtain ⟨s, hs⟩ : ∃ s, want.extract 0 n.toNat = s := ⟨_, rfl⟩
    by_cases hFi : F (i : Int) n = true
    · have h := hF i n h0 h1 hFi
      rw [hd] at h
      rw [if_pos hFi, h]
      exact ⟨_, rfl, hF, rfl, by show i ≤ out.length; omega, List.take_of_length_le (by show out.length ≤ i; omega)⟩
    rw [if_neg hFi]
    have hrc : ∀ (n : Int) (F : Int → Int → Bool) (out : List ByteArray), out.length = i + 1 → 0 ≤ n → n ≤ (want.size : Int) → Sound want fin P F → ∃ R, sa_try want fin ps (i + 1) n F out = some R ∧ Sound want fin P R.2.1 ∧
      (match first nx (okf want fin) ps (want.extract 0 n.toNat) with | some rs => R.1 = true ∧ R.2.2 = out ++ rs.map lr | none => R.1 = false ∧ i + 1 ≤ R.2.2.length ∧ R.2.2.take (i + 1) = out) := fun n F out h2 h3 h4 h5 => try_spec ps (i + 1) n F out hdn h2 h3 h4 h5
    rw [hs] at hz ⊢
    have hlr : sa_lr = [lr false, lr true] := rfl
    rw [hlr, first]
    rcases step want fin P ps p i s hz (hP p hpm) hw _ hrc false [lr true] F out out hF (by omega) (List.take_of_length_le (by omega)) with ⟨rs, F', e1, e2, e3⟩ | ⟨e1, F', out', e2, e3, e4, e5⟩
    · rw [e1, e3, bsome, if_pos rfl]
      exact ⟨_, rfl, e2, rfl, rfl⟩
    rw [e1, e5]
    rcases step want fin P ps p i s hz (hP p hpm) hw _ hrc true [] F' out' out e2 e3 e4 with ⟨rs, F2, f1, f2, f3⟩ | ⟨f1, F2, out2, f2, f3, f4, f5⟩
    · rw [f1, f3, bsome, if_pos rfl]
      exact ⟨_, rfl, f2, rfl, rfl⟩
    rw [f1, f5, sa_cs, bsome, if_neg Bool.false_ne_true]
    refine ⟨_, rfl, ?_, rfl, f3, f4⟩
    intro j m m0 m1 hjm
    dsimp only at hjm
    unfold sa_upd at hjm
    by_cases e : (j : Int) = (i : Int) ∧ m = n
    · obtain ⟨e6, rfl⟩ := e
      obtain rfl : j = i := by omega
      rw [hd, hs, first, e1, f1]
    · rw [if_neg e] at hjm
      exact f2 j m m0 m1 hjm
end
end H21
end Go.Proofs.Ytglffceopijogaa.Q
