/- plain: a row of two lines side by side: the program's and the reference's -/
import Derived.Test.YtchhelmilbheoaaDoorZMYa
import Derived.Lib.TrimByte
import Derived.Test.YtchhelmilbheoaaDoorZMXx73
import Derived.Test.YtchhelmilbheoaaDoorZMXx79
import Derived.Test.YtchhelmilbheoaaDoorZMXx80
namespace Go.Proofs.YtchhelmilbheoaaDoor.Q
set_option linter.unusedVariables false
set_option linter.unusedSimpArgs false
open Go.RowKit Go.Proofs.YtchhelmilbheoaaDoor.X Go.Proofs.YtchhelmilbheoaaDoorW.PrintWords Go.Proofs.YtchhelmilbheoaaDoorW.PrintLast Go.Proofs.YtchhelmilbheoaaDoorW.PrintMore
namespace V17
open H17 (bare bare_le bare_p bytes_eq dl bsz be rdS_nat getS_mem)
abbrev sp : ByteArray := ⟨#[32]⟩
abbrev lf : ByteArray := ⟨#[10]⟩
theorem lf_size : lf.size = 1 := rfl
def exb (s : ByteArray) : ByteArray := ⟨(Sb.ex (bare s).data.toList []).toArray⟩
/-- what of a line is shown -/
def sh (wd : Int) (s : ByteArray) : ByteArray := (exb s).extract 0 (mn wd ((exb s).size : Int)).toNat
theorem mn_le (a b : Int) : mn a b ≤ a ∧ mn a b ≤ b := by unfold mn; split <;> omega
theorem mn_nn {a b : Int} (h : 0 ≤ a) (h2 : 0 ≤ b) : 0 ≤ mn a b := by unfold mn; split <;> omega
theorem sh_le (wd : Int) (s : ByteArray) (h : 1 ≤ wd) : ((sh wd s).size : Int) ≤ wd := by
  unfold sh
  rw [ByteArray.size_extract]
  have h1 := mn_le wd ((exb s).size : Int)
  have h2 := mn_nn (a := wd) (b := ((exb s).size : Int)) (by omega) (by omega)
  omega
theorem shown_p (wd : Int) (s : ByteArray) (hs : s.size ≤ 1048576) : Vs.shown wd s = some (sh wd s) := by
  obtain ⟨b, hb⟩ := bare_p s (by omega)
  have hl := bare_le s
  have he : canon_Expand.f (bare s) = some (exb s) := by unfold canon_Expand.f exb; rw [if_pos (by omega)]
  unfold Vs.shown
  rw [hb, bsome]
  show (canon_Expand.f (bare s)).bind _ = _
  rw [he, bsome]
  rfl
/-- a row -/
def rw_ (wd : Int) (l s r : ByteArray) : ByteArray := (⟨(Lib.trimRightB (Vs.line wd (sh wd l) s (sh wd r)).data.toList 32).toArray⟩ : ByteArray) ++ lf
theorem row_p (wd : Int) (l s r : ByteArray) (hl : l.size ≤ 1048576) (hr : r.size ≤ 1048576) : Vs.rowf wd l s r = some (rw_ wd l s r) := by
  unfold Vs.rowf
  rw [shown_p wd l hl, bsome, shown_p wd r hr, bsome]
  rfl
theorem line_size (wd : Int) (x s y : ByteArray) (hx : (x.size : Int) ≤ wd) : (Vs.line wd x s y).size = wd.toNat + 2 + s.size + y.size := by
  unfold Vs.line
  rw [Sb.rep_eq]
  have e : (⟨#[32]⟩ : ByteArray).size = 1 := rfl
  rw [ByteArray.size_append, ByteArray.size_append, ByteArray.size_append, ByteArray.size_append, ByteArray.size_append, e, bsz (List.replicate _ _), List.length_replicate]
  omega
theorem row_size (wd : Int) (l s r : ByteArray) (h0 : 1 ≤ wd) (h1 : wd ≤ 200) (hs : s.size ≤ 10) : (rw_ wd l s r).size ≤ 500 := by
  have h2 := sh_le wd l h0
  have h3 := sh_le wd r h0
  have h4 := line_size wd (sh wd l) s (sh wd r) h2
  have h5 := Vs.trim_le 32 (Vs.line wd (sh wd l) s (sh wd r)).data.toList
  rw [← Lib.size_eq] at h5
  unfold rw_
  rw [ByteArray.size_append, bsz (Lib.trimRightB _ _), lf_size]
  omega
end V17
end Go.Proofs.YtchhelmilbheoaaDoor.Q
