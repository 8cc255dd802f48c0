/- plain: hunks laid strictly: the program's answer and the reference's -/
import Derived.Test.YtnbeppnpfdempaaZATa
import Derived.Test.YtnbeppnpfdempaaZAXx35
import Derived.Test.YtnbeppnpfdempaaZAXx36
import Derived.Test.YtnbeppnpfdempaaZAXx52
import Derived.Test.YtnbeppnpfdempaaZAXx56
import Derived.Test.YtnbeppnpfdempaaZAXx57
import Derived.Test.YtnbeppnpfdempaaZAXx66
namespace Go.Proofs.Ytnbeppnpfdempaa.Q
set_option linter.unusedVariables false
set_option linter.unusedSimpArgs false
open Go.RowKit Go.Proofs.Ytnbeppnpfdempaa.X Go.Proofs.YtnbeppnpfdempaaW.PrintWords Go.Proofs.YtnbeppnpfdempaaW.PrintLast Go.Proofs.YtnbeppnpfdempaaW.PrintMore
namespace H19
open H12
theorem ck_len {h : Hk} (e : ckh h = 0) : h.f1 = ((pk 45 h.f4).length : Int) := by
  unfold ckh ck at e
  by_cases hb : badr h.f0 h.f1 h.f2 h.f3
  · rw [if_pos hb] at e; omega
  rw [if_neg hb] at e
  by_cases hr : RF h.f4 = true
  case neg => rw [if_neg hr] at e; omega
  rw [if_pos hr] at e
  by_cases hc : h.f1 = ((pk 45 h.f4).length : Int) ∧ h.f3 = ((pk 43 h.f4).length : Int)
  · exact hc.1
  · rw [if_neg hc] at e; omega
theorem pk_mem {s : Int} {ms : List Mk} {t : ByteArray} (h : t ∈ pk s ms) : ∃ m ∈ ms, m.f1 = t := by
  unfold pk at h
  obtain ⟨m, hm, e⟩ := List.mem_map.1 h
  exact ⟨m, (List.mem_filter.1 hm).1, e⟩
def strl (a : List ByteArray) : List Hk → List ByteArray → Int → List ByteArray × Int
  | [], out, e => if okl (out ++ a.drop e.toNat) = true then (out ++ a.drop e.toNat, 0) else ([], 6)
  | h :: l, out, e => if stn a (pa h) (pk 45 h.f4) = true then strl a l (out ++ (a.take (pa h).toNat).drop e.toNat ++ pk 43 h.f4) (pa h + ((pk 45 h.f4).length : Int)) else ([], 190)
/-- what hunks make of a text -/
def strf (l : List Hk) (a : List ByteArray) : List ByteArray × Int := if okl a = true then (if ordo l = 0 then strl a l [] 0 else ([], ordo l)) else ([], 6)
/-- how far it is -/
structure Iv9 (l : List Hk) (a : List ByteArray) (T i : Nat) (out : List ByteArray) (e y : Int) : Prop where
  e0 : 0 ≤ e
  e1 : e ≤ (a.length : Int)
  y0 : 0 ≤ y
  y1 : y ≤ 4294967296
  o : ords e y (l.drop i) = 0
  n : (out.length : Int) + (tot (l.drop i) : Int) ≤ e + (T : Int)
  s : ∀ s ∈ out, s.size ≤ 1000000000000000000
section
variable (l : List Hk) (hll : l.length ≤ 1000000000000000) (hl : ∀ h ∈ l, h.f4.length ≤ 8000000000000) (hs : ∀ h ∈ l, ∀ m ∈ h.f4, m.f1.size ≤ 1000000000000000000)
variable (a : List ByteArray) (hal : a.length ≤ 8000000000000) (has : ∀ s ∈ a, s.size ≤ 1000000000000000000) (hc : ∀ h ∈ l, ckh h = 0) (T : Nat) (hT : T ≤ 8589934592)
include hc has in
theorem iv_step {i : Nat} {out : List ByteArray} {e y : Int} (hi : i < l.length) (hs : ∀ h ∈ l, ∀ m ∈ h.f4, m.f1.size ≤ 1000000000000000000) (v : Iv9 l a T i out e y) (hst : stn a (pa (l.getD i zh)) (pk 45 (l.getD i zh).f4) = true) :
    0 ≤ e ∧ e ≤ pa (l.getD i zh) ∧ pa (l.getD i zh) ≤ (a.length : Int) ∧ pa (l.getD i zh) + ((pk 45 (l.getD i zh).f4).length : Int) ≤ (a.length : Int) ∧ (out.length : Int) + (pa (l.getD i zh) - e) + ((l.getD i zh).f4.length : Int) ≤ pa (l.getD i zh) + (T : Int) ∧
      ∃ y', Iv9 l a T (i + 1) (out ++ (a.take (pa (l.getD i zh)).toNat).drop e.toNat ++ pk 43 (l.getD i zh).f4) (pa (l.getD i zh) + ((pk 45 (l.getD i zh).f4).length : Int)) y' := by
  obtain ⟨h, hh⟩ : ∃ h, l.getD i zh = h := ⟨_, rfl⟩
  have hm : h ∈ l := hh ▸ getHk_mem l i hi
  have ht := tot_mem l i hi
  have ho := v.o
  rw [dropHk l i hi] at ho
  rw [hh] at hst ht ho ⊢
  have hk := hc h hm
  obtain ⟨s0, s1, s2, s3, a1, a2, b1, b2, hf⟩ := ckh_ok hk
  have hlen := ck_len hk
  unfold Sm at s0 s1 s2 s3
  unfold stn at hst
  simp only [Bool.and_eq_true, decide_eq_true_eq] at hst
  obtain ⟨t1, t2, t3, t4⟩ := hst
  rw [ords] at ho
  by_cases c1 : pa h < e
  · rw [if_pos c1] at ho; omega
  rw [if_neg c1] at ho
  by_cases c2 : wrap64 (pa h - e) = wrap64 (pb h - y)
  case neg => rw [if_neg c2] at ho; omega
  rw [if_pos c2] at ho
  have v0 := v.e0
  have v1 := v.e1
  have v2 := v.y0
  have v3 := v.y1
  have v4 := v.n
  have q1 : wrap64 (pa h + h.f1) = pa h + h.f1 := w64 _ (by omega)
  have q2 : wrap64 (pb h + h.f3) = pb h + h.f3 := w64 _ (by omega)
  have q3 : wrap64 (pa h - e) = pa h - e := w64 _ (by omega)
  have q4 : wrap64 (pb h - y) = pb h - y := w64 _ (by omega)
  rw [q1, q2] at ho
  rw [q3, q4] at c2
  clear q1 q2 q3 q4
  have hsl : ((a.take (pa h).toNat).drop e.toNat).length = (pa h).toNat - e.toNat := by rw [List.length_drop, List.length_take]; omega
  have hpk := pk_len 43 h.f4
  refine ⟨v0, by omega, t2, by omega, by omega, pb h + h.f3, ⟨by omega, by omega, by omega, by omega, ?_, ?_, ?_⟩⟩
  · rw [← hlen]; exact ho
  · rw [List.length_append, List.length_append, hsl]; omega
  · intro s hs2
    rcases List.mem_append.1 hs2 with h1 | h1
    · rcases List.mem_append.1 h1 with h2 | h2
      · exact v.s s h2
      · exact has s (List.mem_of_mem_take (List.mem_of_mem_drop h2))
    · obtain ⟨m, hm2, rfl⟩ := pk_mem h1
      exact hs h hm m hm2
include hal has hT in
theorem str_end {i : Nat} {out : List ByteArray} {e y : Int} (v : Iv9 l a T i out e y) : out.length + (a.drop e.toNat).length < 8796093022208 ∧ (out ++ a.drop e.toNat).length ≤ 1000000000000000 ∧ ∀ s ∈ out ++ a.drop e.toNat, s.size ≤ 1000000000000000000 := by
  have v0 := v.e0
  have v1 := v.e1
  have v4 := v.n
  have hd : (a.drop e.toNat).length = a.length - e.toNat := List.length_drop
  refine ⟨by omega, by rw [List.length_append]; omega, fun s h => ?_⟩
  rcases List.mem_append.1 h with h1 | h1
  · exact v.s s h1
  · exact has s (List.mem_of_mem_drop h1)
include hll hl hs hal has hc hT
theorem str_p0 : ∀ (d i : Nat) (out : List ByteArray) (e y : Int), i + d = l.length → Iv9 l a T i out e y → Ev (fun k => apply_Strict.l0 k a out e l (l.length : Int) (i : Int)) (strl a (l.drop i) out e) := by
  intro d
  induction d with
  | zero =>
    intro i out e y hi v
    apply Ev_unfold
    obtain ⟨n1, n2, n3⟩ := str_end l a hal has T hT v
    have v0 := v.e0
    have v1 := v.e1
    rw [List.drop_eq_nil_of_le (show l.length ≤ i by omega), strl]
    simp only [apply_Strict.l0, if_neg (show ¬ (i : Int) < (l.length : Int) by omega), if_pos v0, if_pos v1, if_pos n1]
    refine Ev.bind (checked_p _ n2 n3) ?_
    exact Ev.now _
  | succ d ih =>
    intro i out e y hi v
    apply Ev_unfold
    have o2 : i < 4611686018427387904 := by omega
    rw [dropHk l i (by omega), strl]
    have hm8 := hl _ (getHk_mem l i (by omega))
    have hat : apply_at.f (l.getD i zh).f0 (l.getD i zh).f1 (l.getD i zh).f2 (l.getD i zh).f3 (l.getD i zh).f4 = some (pa (l.getD i zh)) := rfl
    simp only [apply_Strict.l0, if_pos (show (i : Int) < (l.length : Int) by omega), if_pos (show (0 : Int) ≤ (i : Int) by omega), rdHk_nat, hat, bsome, wadd i o2]
    refine Ev.bind (old_p (l.getD i zh).f0 (l.getD i zh).f1 (l.getD i zh).f2 (l.getD i zh).f3 (l.getD i zh).f4 hm8) ?_
    refine Ev.bind (stands_p a (pk 45 (l.getD i zh).f4) (pa (l.getD i zh)) (by omega)) ?_
    by_cases hst : stn a (pa (l.getD i zh)) (pk 45 (l.getD i zh).f4) = true
    case neg => simp only [if_neg hst]; exact Ev.now _
    obtain ⟨u0, u1, u2, u3, u4, y', v'⟩ := iv_step l a has hc T (by omega) hs v hst
    have hsl : ((a.take (pa (l.getD i zh)).toNat).drop e.toNat).length = (pa (l.getD i zh)).toNat - e.toNat := by rw [List.length_drop, List.length_take]; omega
    have hpk := pk_len 43 (l.getD i zh).f4
    have w1 : wrap64 (pa (l.getD i zh) + ((pk 45 (l.getD i zh).f4).length : Int)) = pa (l.getD i zh) + ((pk 45 (l.getD i zh).f4).length : Int) := w64 _ (by omega)
    simp only [if_pos hst, if_pos u0, if_pos u1, if_pos u2, if_pos (show out.length + ((a.take (pa (l.getD i zh)).toNat).drop e.toNat).length < 8796093022208 by omega)]
    refine Ev.bind (new_p (l.getD i zh).f0 (l.getD i zh).f1 (l.getD i zh).f2 (l.getD i zh).f3 (l.getD i zh).f4 hm8) ?_
    simp only [if_pos (show (out ++ (a.take (pa (l.getD i zh)).toNat).drop e.toNat).length + (pk 43 (l.getD i zh).f4).length < 8796093022208 by rw [List.length_append]; omega), w1]
    exact ih (i + 1) _ _ y' (by omega) v'
theorem str_r0 : ∀ (d i : Nat) (out : List ByteArray) (e y : Int), i + d = l.length → Iv9 l a T i out e y → Ev (fun k => redlineref19_Strict.l0 k l a out e (i : Int)) (strl a (l.drop i) out e) := by
  intro d
  induction d with
  | zero =>
    intro i out e y hi v
    apply Ev_unfold
    obtain ⟨n1, n2, n3⟩ := str_end l a hal has T hT v
    have v0 := v.e0
    have v1 := v.e1
    rw [List.drop_eq_nil_of_le (show l.length ≤ i by omega), strl]
    simp only [redlineref19_Strict.l0, if_neg (show ¬ (i : Int) < (l.length : Int) by omega), if_pos v0, if_pos v1, if_pos n1, bsome]
    refine Ev.bind (chk_r _ n2 n3) ?_
    unfold ckl
    by_cases hk : okl (out ++ a.drop e.toNat) = true
    · simp only [if_pos hk, if_true]; exact Ev.now _
    · simp only [if_neg hk, if_neg (show ¬ (6 : Int) = 0 by decide)]; exact Ev.now _
  | succ d ih =>
    intro i out e y hi v
    apply Ev_unfold
    have o2 : i < 4611686018427387904 := by omega
    rw [dropHk l i (by omega), strl]
    have hm8 := hl _ (getHk_mem l i (by omega))
    have hat := at_eq (l.getD i zh) (ck_small (hc _ (getHk_mem l i (by omega))))
    simp only [redlineref19_Strict.l0, if_pos (show (i : Int) < (l.length : Int) by omega), if_pos (show (0 : Int) ≤ (i : Int) by omega), rdHk_nat, hat, bsome, wadd i o2]
    refine Ev.bind (old_r (l.getD i zh).f0 (l.getD i zh).f1 (l.getD i zh).f2 (l.getD i zh).f3 (l.getD i zh).f4 hm8) ?_
    refine Ev.bind (stands_r a (pk 45 (l.getD i zh).f4) (pa (l.getD i zh)) (by omega)) ?_
    by_cases hst : stn a (pa (l.getD i zh)) (pk 45 (l.getD i zh).f4) = true
    case neg => simp only [if_neg hst]; exact Ev.now _
    obtain ⟨u0, u1, u2, u3, u4, y', v'⟩ := iv_step l a has hc T (by omega) hs v hst
    have hsl : ((a.take (pa (l.getD i zh)).toNat).drop e.toNat).length = (pa (l.getD i zh)).toNat - e.toNat := by rw [List.length_drop, List.length_take]; omega
    have hpk := pk_len 43 (l.getD i zh).f4
    have w1 : wrap64 (pa (l.getD i zh) + ((pk 45 (l.getD i zh).f4).length : Int)) = pa (l.getD i zh) + ((pk 45 (l.getD i zh).f4).length : Int) := w64 _ (by omega)
    simp only [if_pos hst, if_pos u0, if_pos u1, if_pos u2, if_pos (show out.length + ((a.take (pa (l.getD i zh)).toNat).drop e.toNat).length < 8796093022208 by omega)]
    refine Ev.bind (new_r (l.getD i zh).f0 (l.getD i zh).f1 (l.getD i zh).f2 (l.getD i zh).f3 (l.getD i zh).f4 hm8) ?_
    simp only [if_pos (show (out ++ (a.take (pa (l.getD i zh)).toNat).drop e.toNat).length + (pk 43 (l.getD i zh).f4).length < 8796093022208 by rw [List.length_append]; omega), w1]
    exact ih (i + 1) _ _ y' (by omega) v'
end
section
variable (l : List Hk) (hll : l.length ≤ 1000000000000000) (hl : ∀ h ∈ l, h.f4.length ≤ 8000000000000) (hs : ∀ h ∈ l, ∀ m ∈ h.f4, m.f1.size ≤ 1000000000000000000)
variable (a : List ByteArray) (hal : a.length ≤ 8000000000000) (has : ∀ s ∈ a, s.size ≤ 1000000000000000000)
theorem iv_start (ho : ordo l = 0) : Iv9 l a (tot l) 0 [] 0 0 := by
  have h := ho
  unfold ordo at h
  rw [if_pos (ordo_0 ho).1] at h
  exact ⟨by omega, by omega, by omega, by omega, by rw [List.drop_zero]; exact h, by rw [List.drop_zero, List.length_nil]; omega, fun s hs => (by cases hs)⟩
include hll hl hs hal has
theorem strict_p : Ev (fun k => apply_Strict.f k l a) (strf l a) := by
  unfold apply_Strict.f strf
  refine Ev.bind (chk_p a (by omega) has) ?_
  unfold ckl
  by_cases hk : okl a = true
  case neg => simp only [if_neg hk, if_neg (show ¬ (6 : Int) = 0 by decide)]; exact Ev.now _
  simp only [if_pos hk, if_true]
  refine Ev.bind (order_p l hll hl) ?_
  by_cases ho : ordo l = 0
  case neg => simp only [if_neg ho]; exact Ev.now _
  simp only [if_pos ho]
  have := str_p0 l hll hl hs a hal has (cks_all (ordo_0 ho).1) (tot l) (ordo_0 ho).2 l.length 0 [] 0 0 (by omega) (iv_start l a ho)
  rw [List.drop_zero] at this
  exact this
theorem strict_r : Ev (fun k => redlineref19_Strict.f k l a) (strf l a) := by
  unfold redlineref19_Strict.f strf
  refine Ev.bind (chk_r a (by omega) has) ?_
  unfold ckl
  by_cases hk : okl a = true
  case neg => simp only [if_neg hk, if_neg (show ¬ (6 : Int) = 0 by decide)]; exact Ev.now _
  simp only [if_pos hk, if_true]
  refine Ev.bind (order_r l hll hl hs) ?_
  by_cases ho : ordo l = 0
  case neg => simp only [if_neg ho]; exact Ev.now _
  simp only [if_pos ho]
  have := str_r0 l hll hl hs a hal has (cks_all (ordo_0 ho).1) (tot l) (ordo_0 ho).2 l.length 0 [] 0 0 (by omega) (iv_start l a ho)
  rw [List.drop_zero] at this
  exact this
end
theorem strl_len (a : List ByteArray) : ∀ (l : List Hk) (out : List ByteArray) (e : Int), (∀ h ∈ l, h.f4.length ≤ 1048576) → a.length ≤ 1048576 → (strl a l out e).1.length ≤ out.length + 1048576 + l.length * 2097152
  | [], out, e, hl, ha => by
    rw [strl]
    split
    · show (out ++ a.drop e.toNat).length ≤ _
      rw [List.length_append, List.length_drop]; omega
    · exact Nat.zero_le _
  | h :: l, out, e, hl, ha => by
    rw [strl]
    split
    · have h1 := strl_len a l (out ++ (a.take (pa h).toNat).drop e.toNat ++ pk 43 h.f4) (pa h + ((pk 45 h.f4).length : Int)) (fun x hx => hl x (List.mem_cons_of_mem _ hx)) ha
      have h2 := pk_len 43 h.f4
      have h3 := hl h (List.mem_cons_self ..)
      have h4 : ((a.take (pa h).toNat).drop e.toNat).length ≤ a.length := by rw [List.length_drop, List.length_take]; omega
      rw [List.length_append, List.length_append] at h1
      rw [List.length_cons]
      omega
    · exact Nat.zero_le _
theorem strf_len (l : List Hk) (a : List ByteArray) (hl : ∀ h ∈ l, h.f4.length ≤ 1048576) (ha : a.length ≤ 1048576) (hll : l.length ≤ 1048576) : (strf l a).1.length ≤ 1000000000000000 := by
  unfold strf
  split
  · split
    · have := strl_len a l [] 0 hl ha
      rw [List.length_nil] at this
      omega
    · exact Nat.zero_le _
  · exact Nat.zero_le _
end H19
end Go.Proofs.Ytnbeppnpfdempaa.Q
