/- plain: what is wrong with a row of hunks: the program's answer and the reference's -/
import Derived.Test.YtmnajajnbmlihaaZCVe
import Derived.Test.YtmnajajnbmlihaaZCXx21
import Derived.Test.YtmnajajnbmlihaaZCXx22
import Derived.Test.YtmnajajnbmlihaaZCXx32
import Derived.Test.YtmnajajnbmlihaaZCXx33
namespace Go.Proofs.Ytmnajajnbmlihaa.Q
set_option linter.unusedVariables false
set_option linter.unusedSimpArgs false
open Go.RowKit Go.Proofs.Ytmnajajnbmlihaa.X Go.Proofs.YtmnajajnbmlihaaW.PrintWords Go.Proofs.YtmnajajnbmlihaaW.PrintLast Go.Proofs.YtmnajajnbmlihaaW.PrintMore
namespace H12
abbrev Hk := S39
abbrev zh : Hk := z39
theorem rdHk_nat (l : List Hk) (i : Nat) : rd_T39 l (i : Int) = l.getD i zh := by
  have h : ∀ j : Int, j = (i : Int) → rd_T39 l j = l.getD i zh := by
    intro j h
    subst h
    rfl
  exact h _ rfl
theorem dropHk (l : List Hk) (i : Nat) (h : i < l.length) : l.drop i = l.getD i zh :: l.drop (i + 1) := by
  rw [List.drop_eq_getElem_cons h]; simp [List.getD_eq_getElem?_getD, h]
theorem getHk_mem (l : List Hk) (i : Nat) (h : i < l.length) : l.getD i zh ∈ l := by
  rw [List.getD_eq_getElem?_getD, List.getElem?_eq_getElem h]
  exact List.getElem_mem h
def ckh (h : Hk) : Int := ck h.f0 h.f1 h.f2 h.f3 h.f4
/-- the first wrong one -/
def cks : List Hk → Int
  | [] => 0
  | h :: l => if ckh h = 0 then cks l else ckh h
def pa (h : Hk) : Int := wrap64 (h.f0 - mn 1 h.f1)
def pb (h : Hk) : Int := wrap64 (h.f2 - mn 1 h.f3)
def ords : Int → Int → List Hk → Int
  | _, _, [] => 0
  | x, y, h :: l => if pa h < x then 121 else if wrap64 (pa h - x) = wrap64 (pb h - y) then ords (wrap64 (pa h + h.f1)) (wrap64 (pb h + h.f3)) l else 121
def ordo (l : List Hk) : Int := if cks l = 0 then ords 0 0 l else cks l
section
variable (l : List Hk) (hll : l.length ≤ 1000000000000000) (hl : ∀ h ∈ l, h.f4.length ≤ 8000000000000) (hs : ∀ h ∈ l, ∀ m ∈ h.f4, m.f1.size ≤ 1000000000000000000)
include hll
include hl
include hs
end
end H12
end Go.Proofs.Ytmnajajnbmlihaa.Q
