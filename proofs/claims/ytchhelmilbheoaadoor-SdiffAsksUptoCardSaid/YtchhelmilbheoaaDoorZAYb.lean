/- plain: a row of two lines side by side: the program's and the reference's -/
import Derived.Test.YtchhelmilbheoaaDoorZAYa
import Derived.Lib.TrimByte
import Derived.Test.YtchhelmilbheoaaDoorZAXx44
import Derived.Test.YtchhelmilbheoaaDoorZAXx50
import Derived.Test.YtchhelmilbheoaaDoorZAXx51
namespace Go.Proofs.YtchhelmilbheoaaDoor.Q
set_option linter.unusedVariables false
set_option linter.unusedSimpArgs false
open Go.RowKit Go.Proofs.YtchhelmilbheoaaDoor.X Go.Proofs.YtchhelmilbheoaaDoorW.PrintWords Go.Proofs.YtchhelmilbheoaaDoorW.PrintLast Go.Proofs.YtchhelmilbheoaaDoorW.PrintMore
namespace V17
open H17 (bare bare_le bare_p bare_r bytes_eq dl bsz be rdS_nat getS_mem)
abbrev sp : ByteArray := ⟨#[32]⟩
abbrev lf : ByteArray := ⟨#[10]⟩
theorem sp_size : sp.size = 1 := rfl
theorem lf_size : lf.size = 1 := rfl
def exb (s : ByteArray) : ByteArray := ⟨(Sb.ex (bare s).data.toList []).toArray⟩
/-- what of a line is shown -/
def sh (wd : Int) (s : ByteArray) : ByteArray := (exb s).extract 0 (mn wd ((exb s).size : Int)).toNat
theorem mn_le (a b : Int) : mn a b ≤ a ∧ mn a b ≤ b := by unfold mn; split <;> omega
theorem mn_nn {a b : Int} (h : 0 ≤ a) (h2 : 0 ≤ b) : 0 ≤ mn a b := by unfold mn; split <;> omega
theorem sh_le (wd : Int) (s : ByteArray) (h : 1 ≤ wd) : ((sh wd s).size : Int) ≤ wd := by
  unfold sh
  rw [ByteArray.size_extract]
  have h1 := mn_le wd ((exb s).size : Int)
  have h2 := mn_nn (a := wd) (b := ((exb s).size : Int)) (by omega) (by omega)
  omega
theorem shown_p (wd : Int) (s : ByteArray) (hs : s.size ≤ 1048576) : Vs.shown wd s = some (sh wd s) := by
  obtain ⟨b, hb⟩ := bare_p s (by omega)
  have hl := bare_le s
  have he : canon_Expand.f (bare s) = some (exb s) := by unfold canon_Expand.f exb; rw [if_pos (by omega)]
  unfold Vs.shown
  rw [hb, bsome]
  show (canon_Expand.f (bare s)).bind _ = _
  rw [he, bsome]
  rfl
theorem shown_r (wd : Int) (s : ByteArray) (hs : s.size ≤ 1048576) (hw : 1 ≤ wd) : Ev (fun k => redlineref17_shown.f k s wd) (sh wd s) := by
  obtain ⟨b, hb⟩ := bare_r s (by omega)
  have hl := bare_le s
  have h1 := mn_le wd ((exb s).size : Int)
  have h2 := mn_nn (a := wd) (b := ((exb s).size : Int)) (by omega) (by omega)
  simp only [redlineref17_shown.f, hb, bsome]
  refine Ev.bind (C3.expand_r (bare s) (by omega)) ?_
  simp only [show C3.tt (Sb.ex (bare s).data.toList []) = exb s from rfl, if_pos h2, if_pos h1.2]
  exact Ev.now _
/-- a row -/
def rw_ (wd : Int) (l s r : ByteArray) : ByteArray := (⟨(Lib.trimRightB (Vs.line wd (sh wd l) s (sh wd r)).data.toList 32).toArray⟩ : ByteArray) ++ lf
theorem row_p (wd : Int) (l s r : ByteArray) (hl : l.size ≤ 1048576) (hr : r.size ≤ 1048576) : Vs.rowf wd l s r = some (rw_ wd l s r) := by
  unfold Vs.rowf
  rw [shown_p wd l hl, bsome, shown_p wd r hr, bsome]
  rfl
theorem line_size (wd : Int) (x s y : ByteArray) (hx : (x.size : Int) ≤ wd) : (Vs.line wd x s y).size = wd.toNat + 2 + s.size + y.size := by
  unfold Vs.line
  rw [Sb.rep_eq]
  have e : (⟨#[32]⟩ : ByteArray).size = 1 := rfl
  rw [ByteArray.size_append, ByteArray.size_append, ByteArray.size_append, ByteArray.size_append, ByteArray.size_append, e, bsz (List.replicate _ _), List.length_replicate]
  omega
theorem row_size (wd : Int) (l s r : ByteArray) (h0 : 1 ≤ wd) (h1 : wd ≤ 200) (hs : s.size ≤ 10) : (rw_ wd l s r).size ≤ 500 := by
  have h2 := sh_le wd l h0
  have h3 := sh_le wd r h0
  have h4 := line_size wd (sh wd l) s (sh wd r) h2
  have h5 := Vs.trim_le 32 (Vs.line wd (sh wd l) s (sh wd r)).data.toList
  rw [← Lib.size_eq] at h5
  unfold rw_
  rw [ByteArray.size_append, bsz (Lib.trimRightB _ _), lf_size]
  omega
/-- the reference's padding -/
theorem pad_r (s r : ByteArray) (wd : Int) (R : ByteArray) (h1 : wd ≤ 200) : ∀ (n : Nat) (x : ByteArray), (x.size : Int) + n = wd → Ev (fun k => redlineref17_row.l0 k s r wd (x ++ ⟨(List.replicate n 32).toArray⟩)) R → Ev (fun k => redlineref17_row.l0 k s r wd x) R
  | 0, x, hx, h => by
    have e : x ++ (⟨(List.replicate 0 32).toArray⟩ : ByteArray) = x := bytes_eq (by rw [Go.Joins.data_append, dl]; simp)
    rw [e] at h
    exact h
  | n + 1, x, hx, h => by
    have ih := pad_r s r wd R h1 n (x ++ sp) (by rw [ByteArray.size_append, sp_size]; omega) (by
      have e : (x ++ sp) ++ (⟨(List.replicate n 32).toArray⟩ : ByteArray) = x ++ ⟨(List.replicate (n + 1) 32).toArray⟩ := bytes_eq (by
        rw [Go.Joins.data_append, Go.Joins.data_append, Go.Joins.data_append, dl, dl, List.append_assoc, List.replicate_succ]
        rfl)
      rw [e]
      exact h)
    apply Ev_unfold
    simp only [redlineref17_row.l0, if_pos (show (x.size : Int) < wd by omega), if_pos (show x.size + 1 ≤ 9223372036854775807 by omega)]
    exact ih
theorem trim_nil (c : UInt8) : Lib.trimRightB [] c = [] := rfl
theorem trim_snoc (l : List UInt8) (b c : UInt8) : Lib.trimRightB (l ++ [b]) c = if b = c then Lib.trimRightB l c else l ++ [b] := by
  unfold Lib.trimRightB
  rw [List.reverse_append]
  show (List.dropWhile (· == c) (b :: l.reverse)).reverse = _
  rw [List.dropWhile_cons]
  by_cases h : b = c
  · rw [if_pos (show (b == c) = true from beq_iff_eq.2 h), if_pos h]
  · rw [if_neg (fun e => h (beq_iff_eq.1 e)), if_neg h, List.reverse_cons, List.reverse_reverse]
/-- the reference's trimming -/
theorem trim_r : ∀ (n : Nat) (x : ByteArray), x.size = n → n ≤ 1000000 → Ev (fun k => redlineref17_row.l1 k x) ((⟨(Lib.trimRightB x.data.toList 32).toArray⟩ : ByteArray) ++ lf)
  | 0, x, hx, hn => by
    apply Ev_unfold
    have e : x.data.toList = [] := by apply List.eq_nil_of_length_eq_zero; rw [← Lib.size_eq]; exact hx
    have e2 : (⟨(Lib.trimRightB x.data.toList 32).toArray⟩ : ByteArray) = x := bytes_eq (by rw [dl, e, trim_nil])
    rw [e2]
    simp only [redlineref17_row.l1, if_neg (show ¬ (x.size : Int) > 0 by omega), if_pos (show x.size + 1 ≤ 9223372036854775807 by omega)]
    exact Ev.now _
  | n + 1, x, hx, hn => by
    apply Ev_unfold
    have w1 : wrap64 ((x.size : Int) - 1) = (n : Int) := by rw [w64 _ (by omega)]; omega
    have hlen : x.data.toList.length = n + 1 := by rw [← Lib.size_eq]; exact hx
    have hne : n < x.data.toList.length := by omega
    have hsp : x.data.toList = x.data.toList.take n ++ [x.data.toList.getD n 0] := by
      conv => lhs; rw [← List.take_append_drop n x.data.toList]
      rw [C3.dropU _ n hne, List.drop_eq_nil_of_le (by omega)]
    have hb : bt x (n : Int) = ((x.data.toList.getD n 0).toNat : Int) := C3.bt_get x n (by omega)
    simp only [redlineref17_row.l1, if_pos (show (x.size : Int) > 0 by omega), w1, if_pos (show (0 : Int) ≤ (n : Int) by omega), if_pos (show (n : Int) < (x.size : Int) by omega), hb, if_pos (show (n : Int) ≤ (x.size : Int) by omega), Int.toNat_natCast]
    by_cases h : x.data.toList.getD n 0 = 32
    · have h2 : ((x.data.toList.getD n 0).toNat : Int) = 32 := by rw [h]; rfl
      simp only [if_pos h2]
      have hx2 : (x.extract 0 n).size = n := by rw [ByteArray.size_extract]; omega
      have hd : (x.extract 0 n).data.toList = x.data.toList.take n := by simp [ByteArray.data_extract, List.extract_eq_take_drop]
      have e : Lib.trimRightB x.data.toList 32 = Lib.trimRightB (x.extract 0 n).data.toList 32 := by
        rw [hd]
        conv => lhs; rw [hsp]
        rw [trim_snoc, if_pos h]
      rw [e]
      exact trim_r n _ hx2 (by omega)
    · have h2 : ¬ ((x.data.toList.getD n 0).toNat : Int) = 32 := fun e => h (by
        apply UInt8.toNat_inj.1
        have : (x.data.toList.getD n 0).toNat = 32 := by omega
        exact this)
      simp only [if_neg h2, if_pos (show x.size + 1 ≤ 9223372036854775807 by omega)]
      have e2 : (⟨(Lib.trimRightB x.data.toList 32).toArray⟩ : ByteArray) = x := bytes_eq (by
        rw [dl]
        conv => lhs; rw [hsp]
        rw [trim_snoc, if_neg h, ← hsp])
      rw [e2]
      exact Ev.now _
theorem row_r (wd : Int) (l s r : ByteArray) (h0 : 1 ≤ wd) (h1 : wd ≤ 200) (hs : s.size ≤ 10) (hl : l.size ≤ 1048576) (hr : r.size ≤ 1048576) : Ev (fun k => redlineref17_row.f k l s r wd) (rw_ wd l s r) := by
  have h2 := sh_le wd l h0
  have h3 := sh_le wd r h0
  unfold redlineref17_row.f
  refine Ev.bind (shown_r wd l hl h0) ?_
  obtain ⟨n, hn⟩ : ∃ n : Nat, ((sh wd l).size : Int) + n = wd := ⟨(wd - ((sh wd l).size : Int)).toNat, by omega⟩
  refine pad_r s r wd _ h1 n _ hn ?_
  obtain ⟨x, hx⟩ : ∃ x, sh wd l ++ (⟨(List.replicate n 32).toArray⟩ : ByteArray) = x := ⟨_, rfl⟩
  have hxs : (x.size : Int) = wd := by rw [← hx, ByteArray.size_append, bsz (List.replicate _ _), List.length_replicate]; omega
  rw [hx]
  apply Ev_unfold
  simp only [redlineref17_row.l0, if_neg (show ¬ (x.size : Int) < wd by omega), if_pos (show x.size + 1 ≤ 9223372036854775807 by omega), if_pos (show (x ++ (⟨#[32]⟩ : ByteArray)).size + s.size ≤ 9223372036854775807 by rw [ByteArray.size_append, sp_size]; omega), if_pos (show ((x ++ (⟨#[32]⟩ : ByteArray)) ++ s).size + 1 ≤ 9223372036854775807 by rw [ByteArray.size_append, ByteArray.size_append, sp_size]; omega)]
  refine Ev.bind (shown_r wd r hr h0) ?_
  have hz : ((((x ++ (⟨#[32]⟩ : ByteArray)) ++ s) ++ (⟨#[32]⟩ : ByteArray)) ++ sh wd r).size ≤ 1000 := by
    simp only [ByteArray.size_append, sp_size]
    omega
  simp only [if_pos (show (((x ++ (⟨#[32]⟩ : ByteArray)) ++ s) ++ (⟨#[32]⟩ : ByteArray)).size + (sh wd r).size ≤ 9223372036854775807 by rw [ByteArray.size_append] at hz; omega)]
  have e : (((x ++ (⟨#[32]⟩ : ByteArray)) ++ s) ++ (⟨#[32]⟩ : ByteArray)) ++ sh wd r = Vs.line wd (sh wd l) s (sh wd r) := by
    apply bytes_eq
    unfold Vs.line
    rw [← hx, show (wd - ((sh wd l).size : Int)).toNat = n by omega, Sb.rep_eq]
    simp only [Go.Joins.data_append, dl, List.append_assoc]
  rw [e] at hz ⊢
  exact trim_r _ _ rfl (by omega)
end V17
end Go.Proofs.YtchhelmilbheoaaDoor.Q
