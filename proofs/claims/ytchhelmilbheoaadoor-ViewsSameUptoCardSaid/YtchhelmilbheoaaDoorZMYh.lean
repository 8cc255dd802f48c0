/- plain: two texts side by side, laid into one and resolved: small texts (works) -/
import Derived.Test.YtchhelmilbheoaaDoorZMYc
import Derived.Test.YtchhelmilbheoaaDoorZMYg
import Derived.Test.YtchhelmilbheoaaDoorZMXx24
import Derived.Test.YtchhelmilbheoaaDoorZMXx73
import Derived.Test.YtchhelmilbheoaaDoorZMXx87
import Derived.Test.YtchhelmilbheoaaDoorZMXx88
namespace Go.Proofs.YtchhelmilbheoaaDoor.Q
set_option linter.unusedVariables false
set_option linter.unusedSimpArgs false
open Go.RowKit Go.Proofs.YtchhelmilbheoaaDoor.X Go.Proofs.YtchhelmilbheoaaDoorW.PrintWords Go.Proofs.YtchhelmilbheoaaDoorW.PrintLast Go.Proofs.YtchhelmilbheoaaDoorW.PrintMore
namespace H27
open H11 (Ch chk check_p cko)
/-- lines, each with a line feed -/
def wh : List ByteArray → List UInt8
  | [] => []
  | s :: l => (H17.bare s).data.toList ++ 10 :: wh l
theorem all_p : ∀ (l : List ByteArray), (∀ s ∈ l, s.size ≤ 1048576) → If.all l = some (wh l)
  | [], _ => rfl
  | s :: l, h => by
    have h1 := all_p l (fun x hx => h x (List.mem_cons_of_mem _ hx))
    obtain ⟨b, hb⟩ := H17.bare_p s (Nat.le_trans (h s (List.mem_cons_self ..)) (by omega))
    rw [If.all, hb, bsome, h1, bsome, wh]
/-- nothing changed -/
theorem ifdef_none (x : List ByteArray) (a : ByteArray) (hx : x.length ≤ 1048576) (hs : ∀ s ∈ x, s.size ≤ 1048576) (hl : (wh x).length ≤ 100000000000000) (h64 : a.size ≤ 64) (hok : nameok a = true) : Ev (fun k => views_Ifdef.f k [] x x a) (⟨(wh x).toArray⟩, 0) := by
  unfold views_Ifdef.f
  simp only [if_pos (show x.length ≤ 1000000000000 ∧ x.length ≤ 1000000000000 ∧ ([] : List Ch).length ≤ 1000000000000 from ⟨by omega, by omega, by simp⟩)]
  have hc := check_p (x.length : Int) (x.length : Int) (by omega) (by omega) ([] : List Ch) (by simp)
  have e : cko (x.length : Int) (x.length : Int) [] true 0 0 = 0 := by rw [H11.cko_end, if_pos (by omega)]
  rw [e] at hc
  refine Ev.bind hc ?_
  rw [if_pos rfl, name_p a (by omega), bsome, if_pos hok, of_p a h64, bsome, If.go, bsome]
  dsimp only
  rw [show (0 : Int).toNat = 0 from rfl, List.drop_zero, all_p x hs, bsome, if_pos (show (0 : Int) ≤ 0 ∧ (0 : Int) ≤ (x.length : Int) ∧ ([] : List UInt8).length + (wh x).length ≤ 100000000000000 from ⟨by omega, by omega, by simpa using hl⟩), List.nil_append]
  exact Ev.now _
theorem resolve_p (a0 a1 : ByteArray) (a2 : Bool) (h0 : a0.size ≤ 1048576) (h64 : a1.size ≤ 64) (hok : nameok a1 = true) : views_Resolve.f a0 a1 a2 = some (Rs.go (y0 a1) (y1 a1) (y2 a1) (y3 a1) (y4 a1) a2 (ln [] a0.data.toList) 0 ⟨#[]⟩ true []) := by
  have hlen := ln_len a0.data.toList []
  have htot := ln_tot a0.data.toList []
  rw [← Lib.size_eq] at hlen htot
  rw [List.length_nil] at htot
  unfold views_Resolve.f
  rw [name_p a1 (by omega), bsome, if_pos hok, of_p a1 h64, bsome, split_p a0 h0, bsome, if_pos (by omega)]
def wa : List ByteArray := [⟨#[49, 10]⟩, ⟨#[50, 10]⟩, ⟨#[51, 10]⟩]
def wb : List ByteArray := [⟨#[49, 10]⟩, ⟨#[120, 10]⟩]
def wc : List Ch := [⟨1, 2, 1, 1⟩]
def ws : ByteArray := ⟨#[49, 32, 32, 32, 32, 32, 49, 10, 50, 32, 32, 32, 124, 32, 120, 10, 51, 32, 32, 32, 60, 10]⟩
def wt : ByteArray := ⟨#[49, 10, 35, 105, 102, 110, 100, 101, 102, 32, 78, 10, 50, 10, 51, 10, 35, 101, 108, 115, 101, 32, 47, 42, 32, 78, 32, 42, 47, 10, 120, 10, 35, 101, 110, 100, 105, 102, 32, 47, 42, 32, 78, 32, 42, 47, 10]⟩
def wu : ByteArray := ⟨#[49, 10, 120, 10]⟩
def wn : ByteArray := ⟨#[78]⟩
theorem wa_small : ∀ s ∈ wa, s.size ≤ 1048576 := by
  intro s h
  simp only [wa, List.mem_cons, List.mem_nil_iff, or_false] at h
  rcases h with rfl | rfl | rfl <;> decide
theorem wb_small : ∀ s ∈ wb, s.size ≤ 1048576 := by
  intro s h
  simp only [wb, List.mem_cons, List.mem_nil_iff, or_false] at h
  rcases h with rfl | rfl <;> decide
theorem w_chk : chk (wa.length : Int) (wb.length : Int) wc true 0 0 = true := by decide +kernel
theorem w_run : V17.runT 3 wa wb wc 0 0 = ws.data.toList := by decide +kernel
theorem w_side : Ev (fun k => views_Side.f k wc wa wb 3) (ws, 0) := by
  have h := V17.prog_side (wd := 3) (a := wa) (b := wb) (by omega) (by omega) wa_small wb_small (by decide) (by decide) wc (by decide)
  rw [if_pos w_chk, w_run] at h
  exact h
theorem w_ifdef : Ev (fun k => views_Ifdef.f k wc wa wb wn) (wt, 0) := by
  unfold views_Ifdef.f
  simp only [if_pos (show wa.length ≤ 1000000000000 ∧ wb.length ≤ 1000000000000 ∧ wc.length ≤ 1000000000000 from ⟨by decide, by decide, by decide⟩)]
  have hc := check_p (wa.length : Int) (wb.length : Int) (by decide) (by decide) wc (by decide)
  unfold cko at hc
  rw [if_pos w_chk] at hc
  refine Ev.bind hc ?_
  rw [if_pos rfl, name_p wn (by decide), bsome, if_pos (by decide +kernel), of_p wn (by decide), bsome]
  have hg : If.go wa wb (y0 wn) (y1 wn) (y2 wn) (y3 wn) (y4 wn) wc 0 [] = some (3, wt.data.toList) := by decide +kernel
  dsimp only
  rw [hg, bsome]
  have ha : If.all (wa.drop (3 : Int).toNat) = some [] := by decide +kernel
  dsimp only
  rw [ha, bsome, if_pos (show (0 : Int) ≤ 3 ∧ (3 : Int) ≤ (wa.length : Int) ∧ wt.data.toList.length + ([] : List UInt8).length ≤ 100000000000000 from ⟨by decide, by decide, by decide +kernel⟩), List.append_nil]
  exact Ev.now _
theorem w_resolve : views_Resolve.f wt wn true = some (wu, none) := by
  rw [resolve_p wt wn true (by decide) (by decide) (by decide +kernel)]
  have h : Rs.go (y0 wn) (y1 wn) (y2 wn) (y3 wn) (y4 wn) true (ln [] wt.data.toList) 0 ⟨#[]⟩ true [] = (wu, none) := by decide +kernel
  rw [h]
theorem works : Ev (fun k => redlinelaw17_works.f k) true := by
  unfold redlinelaw17_works.f
  simp only [bsome]
  refine Ev.bind w_side ?_
  refine Ev.bind w_ifdef ?_
  have hr : views_ResolveN.f wt (⟨#[78]⟩ : ByteArray) true = some (wu, none) := by
    unfold views_ResolveN.f
    rw [show (⟨#[78]⟩ : ByteArray) = wn from rfl, w_resolve, bsome]
  have e1 : ws.toList = ([49, 32, 32, 32, 32, 32, 49, 10, 50, 32, 32, 32, 124, 32, 120, 10, 51, 32, 32, 32, 60, 10] : List UInt8) := by rw [Lib.toList_data]; rfl
  have e2 : wt.toList = ([49, 10, 35, 105, 102, 110, 100, 101, 102, 32, 78, 10, 50, 10, 51, 10, 35, 101, 108, 115, 101, 32, 47, 42, 32, 78, 32, 42, 47, 10, 120, 10, 35, 101, 110, 100, 105, 102, 32, 47, 42, 32, 78, 32, 42, 47, 10] : List UInt8) := by rw [Lib.toList_data]; rfl
  have e3 : wu.toList = ([49, 10, 120, 10] : List UInt8) := by rw [Lib.toList_data]; rfl
  simp only [hr, bsome, if_true, if_pos e1, if_pos e2, e3, Option.isNone_none, beq_self_eq_true]
  exact Ev.now _
end H27
end Go.Proofs.YtchhelmilbheoaaDoor.Q
