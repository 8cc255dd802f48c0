/- plain: the edit script of a row of hunks: the program's answer and the reference's -/
import Derived.Test.YtmnajajnbmlihaaZCVf
import Derived.Test.YtmnajajnbmlihaaZCXx23
import Derived.Test.YtmnajajnbmlihaaZCXx3
import Derived.Test.YtmnajajnbmlihaaZCXx34
import Derived.Test.YtmnajajnbmlihaaZCXx4
import Derived.Test.YtmnajajnbmlihaaZCXx5
import Derived.Test.YtmnajajnbmlihaaZCXx6
namespace Go.Proofs.Ytmnajajnbmlihaa.Q
set_option linter.unusedVariables false
set_option linter.unusedSimpArgs false
open Go.RowKit Go.Proofs.Ytmnajajnbmlihaa.X Go.Proofs.YtmnajajnbmlihaaW.PrintWords Go.Proofs.YtmnajajnbmlihaaW.PrintLast Go.Proofs.YtmnajajnbmlihaaW.PrintMore
namespace H12
abbrev Ch := S35
abbrev zc : Ch := z35
/-! one line more -/
def fits (out : List Ch) (a b : Int) : Bool := decide (0 < out.length) && (decide (wrap64 ((out.getD (out.length - 1) zc).f0 + (out.getD (out.length - 1) zc).f1) = a) && decide (wrap64 ((out.getD (out.length - 1) zc).f2 + (out.getD (out.length - 1) zc).f3) = b))
def bump (c : Ch) (s : Int) : Ch := if s = 45 then ⟨c.f0, wrap64 (c.f1 + 1), c.f2, c.f3⟩ else ⟨c.f0, c.f1, c.f2, wrap64 (c.f3 + 1)⟩
def put (out : List Ch) (a b s : Int) : List Ch := if fits out a b = true then out.take (out.length - 1) ++ [bump (out.getD (out.length - 1) zc) s] else out ++ [bump ⟨a, 0, b, 0⟩ s]
/-- the changes of one hunk's lines -/
def chm : List Mk → List Ch → Int → Int → List Ch
  | [], out, _, _ => out
  | m :: l, out, a, b => if m.f0 = 32 then chm l out (wrap64 (a + 1)) (wrap64 (b + 1)) else if m.f0 = 45 then chm l (put out a b m.f0) (wrap64 (a + 1)) b else chm l (put out a b m.f0) a (wrap64 (b + 1))
def chh : List Hk → List Ch → List Ch
  | [], out => out
  | h :: l, out => chh l (chm h.f4 out (pa h) (pb h))
def tot : List Hk → Nat
  | [] => 0
  | h :: l => h.f4.length + tot l
/-! a hunk that is right has no more lines than it says -/
/-! the program's loops -/
section
variable (l : List Hk) (hll : l.length ≤ 1000000000000000) (hl : ∀ h ∈ l, h.f4.length ≤ 8000000000000)
include hll hl
/-- the script, or what is wrong -/
def chs (l : List Hk) : List Ch × Int := if ordo l = 0 then (chh l [], 0) else ([], ordo l)
end
end H12
end Go.Proofs.Ytmnajajnbmlihaa.Q
