/- plain: a line as it counts: the program's answer and the reference's -/
import Derived.Test.YtglffceopijogaaDoorZBQa
import Derived.Test.YtglffceopijogaaDoorZBCb
import Derived.Test.YtglffceopijogaaDoorZBXx20
import Derived.Test.YtglffceopijogaaDoorZBXx4
import Derived.Test.YtglffceopijogaaDoorZBXx47
import Derived.Test.YtglffceopijogaaDoorZBXx48
import Derived.Test.YtglffceopijogaaDoorZBXx49
import Derived.Test.YtglffceopijogaaDoorZBXx50
import Derived.Test.YtglffceopijogaaDoorZBXx51
import Derived.Test.YtglffceopijogaaDoorZBXx52
import Derived.Test.YtglffceopijogaaDoorZBXx53
import Derived.Test.YtglffceopijogaaDoorZBXx54
import Derived.Test.YtglffceopijogaaDoorZBXx55
import Derived.Test.YtglffceopijogaaDoorZBXx56
namespace Go.Proofs.YtglffceopijogaaDoor.Q
set_option linter.unusedVariables false
set_option linter.unusedSimpArgs false
open Go.RowKit Go.Proofs.YtglffceopijogaaDoor.X Go.Proofs.YtglffceopijogaaDoorW.PrintWords Go.Proofs.YtglffceopijogaaDoorW.PrintLast Go.Proofs.YtglffceopijogaaDoorW.PrintMore
namespace C3
open Ca (wb wh T wt sq)
abbrev tt (l : List UInt8) : ByteArray := ⟨l.toArray⟩
abbrev I (b : UInt8) : Int := (b.toNat : Int)
theorem tt_list (l : List UInt8) : (tt l).data.toList = l := rfl
theorem tt_size (l : List UInt8) : (tt l).size = l.length := by rw [Lib.size_eq]
theorem tt_self (s : ByteArray) : tt s.data.toList = s := by cases s; rfl
theorem tt_inj {a b : ByteArray} (h : a.data.toList = b.data.toList) : a = b := by rw [← tt_self a, h, tt_self b]
theorem strOf (l : List UInt8) : strOfNums (l.map I) = tt l := by
  apply tt_inj
  rw [strOfNums_data, List.map_map]
  show List.map _ l = l
  conv => rhs; rw [← List.map_id l]
  apply List.map_congr_left
  intro b _
  show UInt8.ofNat ((b.toNat : Int)).toNat = b
  rw [Int.toNat_natCast, UInt8.ofNat_toNat]
theorem map_snoc (l : List UInt8) (b : UInt8) : l.map I ++ [(b.toNat : Int)] = (l ++ [b]).map I := by simp [I]
theorem bt_get (s : ByteArray) (i : Nat) (h : i < s.size) : bt s (i : Int) = ((s.data.toList.getD i 0).toNat : Int) := by
  have h2 := bt_at s (i : Int) (by simpa using h)
  rw [← h2]
  have h3 : i < s.data.toList.length := by rw [← Lib.size_eq]; exact h
  rw [List.getD_eq_getElem?_getD, List.getElem?_eq_getElem h3]
  rfl
theorem dropU (l : List UInt8) (i : Nat) (h : i < l.length) : l.drop i = l.getD i 0 :: l.drop (i + 1) := by
  rw [List.drop_eq_getElem_cons h, List.getD_eq_getElem?_getD, List.getElem?_eq_getElem h, Option.getD_some]
theorem white_r (b : UInt8) : redlineref03_white.f (b.toNat : Int) = some (wb b) := by
  have H : ∀ n : Fin 256, redlineref03_white.f (n.val : Int) = some (wh n.val) := by decide +kernel
  exact H ⟨b.toNat, b.toNat_lt⟩
theorem expand_r (s : ByteArray) (hs : s.size ≤ 1000000000) : Ev (fun k => redlineref03_Expand.f k s) (tt (Sb.ex s.data.toList [])) := by
  have hl : s.data.toList.length = s.size := (Lib.size_eq s).symm
  have inner : ∀ (n : Nat) (acc : List UInt8) (i : Int) (R : ByteArray), (acc.length + n) % 8 = 0 → n < 8 → acc.length + n ≤ 100000000000 → Ev (fun k => redlineref03_Expand.l0 k s ((acc ++ List.replicate n 32).map I) (wrap64 (i + 1))) R → Ev (fun k => redlineref03_Expand.l1 k s (acc.map I) i) R := by
    intro n
    induction n with
    | zero =>
      intro acc i R h1 h2 h3 h
      apply Ev_unfold
      rw [List.replicate_zero, List.append_nil] at h
      simp only [redlineref03_Expand.l1, if_pos (show (((acc.map I).length : Nat) : Int) % 8 = 0 by rw [List.length_map]; omega)]
      exact h
    | succ n ih =>
      intro acc i R h1 h2 h3 h
      apply Ev_unfold
      simp only [redlineref03_Expand.l1, if_neg (show ¬ (((acc.map I).length : Nat) : Int) % 8 = 0 by rw [List.length_map]; omega), if_pos (show (acc.map I).length < 140737488355328 by rw [List.length_map]; omega)]
      have h5 := ih (acc ++ [32]) i R (by rw [List.length_append, List.length_singleton]; omega) (by omega) (by rw [List.length_append, List.length_singleton]; omega) (by
        rw [List.append_assoc, List.singleton_append, ← List.replicate_succ]; exact h)
      rw [← map_snoc] at h5
      exact h5
  have go : ∀ (d i : Nat) (acc : List UInt8), i + d = s.data.toList.length → acc.length ≤ 8 * i → Ev (fun k => redlineref03_Expand.l0 k s (acc.map I) (i : Int)) (tt (Sb.ex (s.data.toList.drop i) acc)) := by
    intro d
    induction d with
    | zero =>
      intro i acc hi ha
      apply Ev_unfold
      rw [List.drop_eq_nil_of_le (by omega), Sb.ex]
      simp only [redlineref03_Expand.l0, if_neg (show ¬ (i : Int) < (s.size : Int) by omega), strOf]
      exact Ev.now _
    | succ d ih =>
      intro i acc hi ha
      apply Ev_unfold
      have o2 : i < 4611686018427387904 := by omega
      have hb := bt_get s i (by omega)
      rw [dropU _ i (by omega), Sb.ex]
      obtain ⟨x, hx⟩ : ∃ x, s.data.toList.getD i 0 = x := ⟨_, rfl⟩
      rw [hx] at hb ⊢
      have hx9 : (x.toNat : Int) = 9 ↔ x = 9 := by
        constructor
        · intro h
          have : x.toNat = 9 := by omega
          exact UInt8.toNat_inj.1 this
        · intro h; subst h; rfl
      by_cases h9 : x = 9
      · simp only [redlineref03_Expand.l0, if_pos (show (i : Int) < (s.size : Int) by omega), if_pos (show (0 : Int) ≤ (i : Int) by omega), hb, if_pos (hx9.2 h9), if_pos (show (acc.map I).length < 140737488355328 by rw [List.length_map]; omega), if_pos h9]
        have h := inner (7 - acc.length % 8) (acc ++ [32]) (i : Int) (tt (Sb.ex (s.data.toList.drop (i + 1)) (acc ++ List.replicate (8 - acc.length % 8) 32))) (by rw [List.length_append, List.length_singleton]; omega) (by omega) (by rw [List.length_append, List.length_singleton]; omega) (by
          rw [List.append_assoc, List.singleton_append, ← List.replicate_succ, show 7 - acc.length % 8 + 1 = 8 - acc.length % 8 by omega, wadd i o2]
          exact ih (i + 1) _ (by omega) (by rw [List.length_append, List.length_replicate]; omega))
        rw [← map_snoc] at h
        exact h
      · simp only [redlineref03_Expand.l0, if_pos (show (i : Int) < (s.size : Int) by omega), if_pos (show (0 : Int) ≤ (i : Int) by omega), hb, if_neg (mt hx9.1 h9), if_pos (show (acc.map I).length < 140737488355328 by rw [List.length_map]; omega), if_neg h9, wadd i o2]
        have h := ih (i + 1) (acc ++ [x]) (by omega) (by rw [List.length_append, List.length_singleton]; omega)
        rw [← map_snoc] at h
        exact h
  exact go s.data.toList.length 0 [] (by omega) (by simp)
def wo (bl : Bool) : Bool → List UInt8 → List UInt8
  | _, [] => []
  | p, b :: l => if wb b = true then (if bl = true then (if p = true then wo bl true l else 32 :: wo bl true l) else wo bl true l) else b :: wo bl false l
theorem wo_true : ∀ (l : List UInt8) (p : Bool), wo true p l = wt p l
  | [], p => rfl
  | b :: l, p => by
    rw [wo, wt, wo_true l true, wo_true l false, if_pos rfl]
theorem wo_false : ∀ (l : List UInt8) (p : Bool), wo false p l = l.filter (fun b => !wb b)
  | [], p => rfl
  | b :: l, p => by
    rw [wo, wo_false l true, wo_false l false, if_neg Bool.false_ne_true]
    by_cases h : wb b = true
    · rw [if_pos h, List.filter_cons_of_neg (by simp [h])]
    · rw [if_neg h, List.filter_cons_of_pos (by simp [h])]
theorem without_r (s : ByteArray) (bl : Bool) (hs : s.size ≤ 1000000000) : Ev (fun k => redlineref03_without.f k s bl) (tt (wo bl false s.data.toList)) := by
  have hl : s.data.toList.length = s.size := (Lib.size_eq s).symm
  have go : ∀ (d i : Nat) (acc : List UInt8) (p : Bool), i + d = s.data.toList.length → acc.length ≤ i → (p = true ↔ 0 < i ∧ wb (s.data.toList.getD (i - 1) 0) = true) → Ev (fun k => redlineref03_without.l0 k s bl (acc.map I) (i : Int)) (tt (acc ++ wo bl p (s.data.toList.drop i))) := by
    intro d
    induction d with
    | zero =>
      intro i acc p hi ha hp
      apply Ev_unfold
      rw [List.drop_eq_nil_of_le (by omega), wo, List.append_nil]
      simp only [redlineref03_without.l0, if_neg (show ¬ (i : Int) < (s.size : Int) by omega), strOf]
      exact Ev.now _
    | succ d ih =>
      intro i acc p hi ha hp
      apply Ev_unfold
      have o2 : i < 4611686018427387904 := by omega
      have hb := bt_get s i (by omega)
      rw [dropU _ i (by omega), wo]
      obtain ⟨x, hx⟩ : ∃ x, s.data.toList.getD i 0 = x := ⟨_, rfl⟩
      rw [hx] at hb ⊢
      have hp2 : ∀ q : Bool, q = wb x → (q = true ↔ 0 < i + 1 ∧ wb (s.data.toList.getD (i + 1 - 1) 0) = true) := by
        intro q hq
        rw [Nat.add_sub_cancel, hx, hq]
        exact ⟨fun h => ⟨by omega, h⟩, fun h => h.2⟩
      have hlen : (acc.map I).length < 140737488355328 := by rw [List.length_map]; omega
      simp only [redlineref03_without.l0, if_pos (show (i : Int) < (s.size : Int) by omega), if_pos (show (0 : Int) ≤ (i : Int) by omega), hb, white_r, bsome, wadd i o2]
      by_cases hw : wb x = true
      case neg =>
        simp only [if_neg hw, if_pos hlen]
        have h := ih (i + 1) (acc ++ [x]) false (by omega) (by rw [List.length_append, List.length_singleton]; omega) (hp2 false (Bool.eq_false_iff.2 hw).symm)
        rw [← map_snoc, List.append_assoc] at h
        exact h
      have hnext : ∀ acc2 : List UInt8, acc2.length ≤ i + 1 → Ev (fun k => redlineref03_without.l0 k s bl (acc2.map I) ((i + 1 : Nat) : Int)) (tt (acc2 ++ wo bl true (s.data.toList.drop (i + 1)))) := fun acc2 h2 => ih (i + 1) acc2 true (by omega) h2 (hp2 true hw.symm)
      have hblank : Ev (fun k => redlineref03_without.l0 k s bl (acc.map I ++ [32]) ((i + 1 : Nat) : Int)) (tt (acc ++ 32 :: wo bl true (s.data.toList.drop (i + 1)))) := by
        have h := hnext (acc ++ [32]) (by rw [List.length_append, List.length_singleton]; omega)
        rw [← map_snoc, List.append_assoc] at h
        exact h
      simp only [if_pos hw]
      by_cases hbl : bl = true
      case neg =>
        simp only [if_neg hbl]
        exact hnext acc (by omega)
      simp only [if_pos hbl]
      by_cases h0 : (i : Int) = 0
      · have hpf : p = false := Bool.eq_false_iff.2 (fun h => by have := (hp.1 h).1; omega)
        simp only [if_pos h0, if_pos hlen, hpf, Bool.false_eq_true, if_false]
        exact hblank
      · have e1 : wrap64 ((i : Int) - 1) = ((i - 1 : Nat) : Int) := by rw [w64 _ (by omega)]; omega
        have hb2 := bt_get s (i - 1) (by omega)
        simp only [if_neg h0, e1, if_pos (show (0 : Int) ≤ ((i - 1 : Nat) : Int) by omega), if_pos (show ((i - 1 : Nat) : Int) < (s.size : Int) by omega), hb2, white_r, bsome, if_pos hlen]
        by_cases hq : wb (s.data.toList.getD (i - 1) 0) = true
        · have hpt : p = true := hp.2 ⟨by omega, hq⟩
          simp only [if_pos hq, hpt, if_true]
          exact hnext acc (by omega)
        · have hpf : p = false := Bool.eq_false_iff.2 (fun h => hq (hp.1 h).2)
          simp only [if_neg hq, hpf, Bool.false_eq_true, if_false]
          exact hblank
  have h := go s.data.toList.length 0 [] false (by omega) (by simp) (by simp)
  rw [List.nil_append] at h
  exact h
theorem trail_r : ∀ (n : Nat) (s : ByteArray), s.size = n → n ≤ 1000000000 → Ev (fun k => redlineref03_trail.f k s) (tt (T s.data.toList)) := by
  intro n
  induction n with
  | zero =>
    intro s hn hs
    have hl : s.data.toList = [] := List.eq_nil_of_length_eq_zero (by rw [← Lib.size_eq]; exact hn)
    unfold redlineref03_trail.f
    apply Ev_unfold
    simp only [redlineref03_trail.l0, if_neg (show ¬ (s.size : Int) > 0 by omega)]
    have e : tt (T s.data.toList) = s := by rw [hl]; exact (tt_inj (by rw [hl]; rfl)).symm
    rw [e]
    exact Ev.now _
  | succ n ih =>
    intro s hn hs
    unfold redlineref03_trail.f
    apply Ev_unfold
    have hl : s.data.toList.length = s.size := (Lib.size_eq s).symm
    have e1 : wrap64 ((s.size : Int) - 1) = (n : Int) := by rw [w64 _ (by omega)]; omega
    have hb := bt_get s n (by omega)
    obtain ⟨x, hx⟩ : ∃ x, s.data.toList.getD n 0 = x := ⟨_, rfl⟩
    rw [hx] at hb
    have hcut : (s.extract 0 n).data.toList = s.data.toList.take n := by
      have h := Ca.ext s 0 n
      rw [List.drop_zero, Nat.sub_zero] at h
      exact h
    have hsn : s.data.toList = s.data.toList.take n ++ [x] := by
      have h := dropU s.data.toList n (by omega)
      rw [hx, List.drop_eq_nil_of_le (show s.data.toList.length ≤ n + 1 by omega)] at h
      rw [← h, List.take_append_drop]
    simp only [redlineref03_trail.l0, if_pos (show (s.size : Int) > 0 by omega), e1, if_pos (show (0 : Int) ≤ (n : Int) by omega), if_pos (show (n : Int) < (s.size : Int) by omega), hb, white_r, bsome, if_pos (show (n : Int) ≤ (s.size : Int) by omega), Int.toNat_natCast]
    rw [hsn, Ca.T_last]
    by_cases hw : wb x = true
    · simp only [if_pos hw]
      have h := ih (s.extract 0 n) (by rw [Lib.size_eq, hcut, List.length_take]; omega) (by omega)
      rw [hcut] at h
      exact h
    · simp only [if_neg hw]
      rw [← hsn, tt_self]
      exact Ev.now _
theorem small_r (s : ByteArray) (hs : s.size ≤ 1000000000) : Ev (fun k => redlineref03_small.f k s) (tt (s.data.toList.map Ct.low)) := by
  have hl : s.data.toList.length = s.size := (Lib.size_eq s).symm
  have go : ∀ (d i : Nat) (acc : List UInt8), i + d = s.data.toList.length → acc.length ≤ i → Ev (fun k => redlineref03_small.l0 k s (acc.map I) (i : Int)) (tt (acc ++ (s.data.toList.drop i).map Ct.low)) := by
    intro d
    induction d with
    | zero =>
      intro i acc hi ha
      apply Ev_unfold
      rw [List.drop_eq_nil_of_le (by omega), List.map_nil, List.append_nil]
      simp only [redlineref03_small.l0, if_neg (show ¬ (i : Int) < (s.size : Int) by omega), strOf]
      exact Ev.now _
    | succ d ih =>
      intro i acc hi ha
      apply Ev_unfold
      have o2 : i < 4611686018427387904 := by omega
      have hb := bt_get s i (by omega)
      rw [dropU _ i (by omega), List.map_cons]
      obtain ⟨x, hx⟩ : ∃ x, s.data.toList.getD i 0 = x := ⟨_, rfl⟩
      rw [hx] at hb ⊢
      have hlen : (acc.map I).length < 140737488355328 := by rw [List.length_map]; omega
      have hln := Ct.low_nat x
      have h := ih (i + 1) (acc ++ [Ct.low x]) (by omega) (by rw [List.length_append, List.length_singleton]; omega)
      rw [← map_snoc, List.append_assoc, List.singleton_append, hln] at h
      simp only [redlineref03_small.l0, if_pos (show (i : Int) < (s.size : Int) by omega), if_pos (show (0 : Int) ≤ (i : Int) by omega), hb, wadd i o2, if_pos hlen]
      by_cases h1 : 65 ≤ x.toNat
      · simp only [if_pos (show (x.toNat : Int) ≥ 65 by omega)]
        by_cases h2 : x.toNat ≤ 90
        · simp only [if_pos (show (x.toNat : Int) ≤ 90 by omega)]
          rw [if_pos ⟨h1, h2⟩] at h
          rw [show (((x.toNat : Int) - 65) % 256 + 97) % 256 = ((x.toNat + 32 : Nat) : Int) by omega]
          exact h
        · simp only [if_neg (show ¬ (x.toNat : Int) ≤ 90 by omega)]
          rw [if_neg (by omega)] at h
          exact h
      · simp only [if_neg (show ¬ (x.toNat : Int) ≥ 65 by omega)]
        rw [if_neg (by omega)] at h
        exact h
  have h := go s.data.toList.length 0 [] (by omega) (by simp)
  rw [List.nil_append] at h
  exact h
end C3
end Go.Proofs.YtglffceopijogaaDoor.Q
