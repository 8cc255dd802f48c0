/- Words for laws where what is read is small: what is laid out as a value of a type is of that type's kind, and how long its rows and strings may be. -/
import Derived.Test.YtchhelmilbheoaaDoorZMWA
import Derived.Test.YtchhelmilbheoaaDoorRows
import Derived.Deep.Slices
import Derived.ChangeSame
import Derived.ChangeArms
import Derived.SizedLaws
namespace Go.Proofs.YtchhelmilbheoaaDoorW.BulkWords
open Go.ChangeShapes Go.WideShapes Go.RowKit Go.Proofs.YtchhelmilbheoaaDoor Go.Proofs.YtchhelmilbheoaaDoorW.PrintWords Go.Proofs.YtchhelmilbheoaaDoorW.PrintLast Go.Proofs.YtchhelmilbheoaaDoorW.PrintMore
set_option linter.unusedVariables false
theorem part_le {H : Type} {d : DataW H} {l : List (DataW H)} (h : d ∈ l) : Rows.uptoBulk d ≤ Rows.uptoBulkAll l := by
  induction l with
  | nil => cases h
  | cons x r ih =>
    simp only [Rows.uptoBulkAll]
    cases List.mem_cons.1 h with
    | inl e => subst e; omega
    | inr e => have := ih e; omega
/-- a value of type t is of the kind d, and B holds of it, where it is small -/
def Opens (P : Program) {α : Type} (d : Kd α) (t : TypeId) (B : α → Prop) : Prop :=
  ∀ {H : Type} {enc : TypeId × Value → H} {W : World} {base : Nat} {spare : Nat → Bool} {held : Bool} {fuel : Nat} {cs : List Value} {x : DataW H × List MemPlace},
    DataW.trod enc P W base spare held fuel t cs = some x → Rows.uptoBulk x.1 ≤ 1048576 → ∃ y : α, d.K W y cs ∧ B y
def OpensF (P : Program) {α : Type} (d : Kd α) (fs : List Field) (off : Nat) (B : α → Prop) : Prop :=
  ∀ {H : Type} {enc : TypeId × Value → H} {W : World} {base : Nat} {spare : Nat → Bool} {held : Bool} {fuel : Nat} {cs : List Value} {xs : List (DataW H × List MemPlace)},
    xs.length = fs.length → (∀ (i : Nat) (f : Field), fs[i]? = some f → DataW.trod enc P W base spare held fuel f.type ((cs.drop f.offset).take (P.cellsOf f.type)) = xs[i]?) →
    (∀ x ∈ xs, Rows.uptoBulk x.1 ≤ 1048576) → ∃ y : α, d.K W y ((cs.drop off).take d.sz) ∧ B y
end Go.Proofs.YtchhelmilbheoaaDoorW.BulkWords
