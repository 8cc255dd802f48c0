/-
  No cell of these rows narrows 'for every input' (looked for: loops, veiled, ifaces, maps, wideKeys, modest, calm, conditions, laid).
  DERIVED. THE GIVEN ROWS OF THIS SEAT. 3 by the template 'for every input the law returns true; each argument reads behind the call as it read before'; 0 by the template 'total and deterministic' (their statements: YtmnajajnbmlihaaTotals.lean).
  GIVEN WITH THE SEED: the statements are not yours to turn. If you find one false, say at which input.
  Laid BY PROGRAM, IN A SANDBOX (cutbox-rows.mjs): the forced cells as the released guide's own fill.sh prints them over the translation 4bba00e1a1fa98b6… (all of the seat's roots in one cut). By AI agents, Wed Nov 11 2026. No macro, syntax, notation, axiom, sorry.
-/
import Derived.Test.YtmnajajnbmlihaaChecked
import GoSem.Claim
import GoSem.ClaimJoined
import GoSem.ClaimMapViews
import Derived.JoinedTies
import Derived.KernelRfl
namespace Go.Proofs.Ytmnajajnbmlihaa
/- THE CELL 'sum', in the pinned program and in every row, IS THE sha256 OF THE DUMP (.gsa) THAT YtmnajajnbmlihaaProg.lean LOADS. Nothing in Lean hashes anything: it is a label: what it is worth is what the hold of that sum in a sandbox is worth. -/
noncomputable def Try.pinned : Pinned := { name := "ytmnajajnbmlihaa", sum := "4bba00e1a1fa98b640569535604bb7e1ea956c8085c8c39d42e64b7b5f12f785", checked := Try.checked }
namespace Rows
def none {H : Type} : Left H := { results := [], args := [] }

/-- 'redlinelaw11.HunksMakes': WHATEVER THE INPUT: true; the input reads as it did. -/
def hunksMakesSpec : ChangeSpec := { name := "hunksMakes", fn := fun _ => fun
  | [d1, d2, d3, d4] => { results := [.lit (.bool true)], args := [d1, d2, d3, d4] }
  | _ => none }
def hunksMakesRow : OpenClaim := { program := "ytmnajajnbmlihaa", sum := "4bba00e1a1fa98b640569535604bb7e1ea956c8085c8c39d42e64b7b5f12f785", func := "redline/redlinelaw11.HunksMakes", spec := "hunksMakes", unfollowed := true, recurses := true, apart := false }
def HunksMakesSaid : Prop := hunksMakesRow.holds Try.pinned (OpenSpec.ofChange hunksMakesSpec)

/-- ITS FALSE NEIGHBOUR: 'it returns false'. Refute it at one input. -/
def hunksMakesWrong : ChangeSpec := { name := "hunksMakes", fn := fun _ => fun
  | [d1, d2, d3, d4] => { results := [.lit (.bool false)], args := [d1, d2, d3, d4] }
  | _ => none }
def HunksMakesWrongFalsely : Prop := hunksMakesRow.holds Try.pinned (OpenSpec.ofChange hunksMakesWrong)

/-- 'redlinelaw11.HunksChecks': WHATEVER THE INPUT: true; the input reads as it did. -/
def hunksChecksSpec : ChangeSpec := { name := "hunksChecks", fn := fun _ => fun
  | [d] => { results := [.lit (.bool true)], args := [d] }
  | _ => none }
def hunksChecksRow : OpenClaim := { program := "ytmnajajnbmlihaa", sum := "4bba00e1a1fa98b640569535604bb7e1ea956c8085c8c39d42e64b7b5f12f785", func := "redline/redlinelaw11.HunksChecks", spec := "hunksChecks", inPlace := ["internal/bytealg.IndexByteString"], unfollowed := true, recurses := true, apart := false }
def HunksChecksSaid : Prop := hunksChecksRow.holds Try.pinned (OpenSpec.ofChange hunksChecksSpec)

/-- ITS FALSE NEIGHBOUR: 'it returns false'. Refute it at one input. -/
def hunksChecksWrong : ChangeSpec := { name := "hunksChecks", fn := fun _ => fun
  | [d] => { results := [.lit (.bool false)], args := [d] }
  | _ => none }
def HunksChecksWrongFalsely : Prop := hunksChecksRow.holds Try.pinned (OpenSpec.ofChange hunksChecksWrong)

/-- 'redlinelaw11.HunksOrder': WHATEVER THE INPUT: true; the input reads as it did. -/
def hunksOrderSpec : ChangeSpec := { name := "hunksOrder", fn := fun _ => fun
  | [d] => { results := [.lit (.bool true)], args := [d] }
  | _ => none }
def hunksOrderRow : OpenClaim := { program := "ytmnajajnbmlihaa", sum := "4bba00e1a1fa98b640569535604bb7e1ea956c8085c8c39d42e64b7b5f12f785", func := "redline/redlinelaw11.HunksOrder", spec := "hunksOrder", inPlace := ["internal/bytealg.IndexByteString"], unfollowed := true, recurses := true, apart := false }
def HunksOrderSaid : Prop := hunksOrderRow.holds Try.pinned (OpenSpec.ofChange hunksOrderSpec)

/-- ITS FALSE NEIGHBOUR: 'it returns false'. Refute it at one input. -/
def hunksOrderWrong : ChangeSpec := { name := "hunksOrder", fn := fun _ => fun
  | [d] => { results := [.lit (.bool false)], args := [d] }
  | _ => none }
def HunksOrderWrongFalsely : Prop := hunksOrderRow.holds Try.pinned (OpenSpec.ofChange hunksOrderWrong)

/- THE SECOND FORM. 'bulk': how many values and letters a reading holds, each counted each time it is reached (what is shared counts as often as it is met; a slice's spare places count too). A statement '..UptoSaid' is the law's where the arguments, and the package variables that the reading takes, are together of bulk at most 1048576: NARROWER than '..Said'. Prove '..Said' where nothing that the law and all that it calls make is longer than what came in: it says more and counts as full. Else prove '..UptoSaid'. A law counts once. -/
mutual
def uptoBulk {H : Type} : DataW H → Nat
  | .lit (.string bytes) => bytes.length + 1
  | .lit _ => 1
  | .nil => 1
  | .ptr d => uptoBulk d + 1
  | .slice elems spare => uptoBulkAll elems + uptoBulkAll spare + 1
  | .agg parts => uptoBulkAll parts + 1
  | .iface _ d => uptoBulk d + 1
  | .map entries => uptoBulkEntries entries + 1
  | .held _ => 1
def uptoBulkAll {H : Type} : List (DataW H) → Nat
  | [] => 0
  | d :: r => uptoBulk d + uptoBulkAll r
def uptoBulkEntries {H : Type} : List (Lit × DataW H) → Nat
  | [] => 0
  | x :: r => uptoBulkEntry x + uptoBulkEntries r
def uptoBulkEntry {H : Type} : Lit × DataW H → Nat
  | (.string bytes, d) => bytes.length + uptoBulk d + 1
  | (_, d) => uptoBulk d + 1
 end
def uptoSmall : (H : Type) → List (DataW H) → Bool := fun _ ds => decide (uptoBulkAll ds ≤ 1048576)
def OpenSpec.upto (s : _root_.Go.ChangeSpec) : _root_.Go.OpenSpec := { _root_.Go.OpenSpec.ofChange s with cond := some uptoSmall }

/-- 'redlinelaw11.HunksMakes', WHERE WHAT IT READS IS OF BULK AT MOST 1048576: true; the input reads as it did. -/
def hunksMakesUptoRow : OpenClaim := { program := "ytmnajajnbmlihaa", sum := "4bba00e1a1fa98b640569535604bb7e1ea956c8085c8c39d42e64b7b5f12f785", func := "redline/redlinelaw11.HunksMakes", spec := "hunksMakes", unfollowed := true, recurses := true, apart := false, narrowed := true }
def HunksMakesUptoSaid : Prop := hunksMakesUptoRow.holds Try.pinned (OpenSpec.upto hunksMakesSpec)

/-- 'redlinelaw11.HunksChecks', WHERE WHAT IT READS IS OF BULK AT MOST 1048576: true; the input reads as it did. -/
def hunksChecksUptoRow : OpenClaim := { program := "ytmnajajnbmlihaa", sum := "4bba00e1a1fa98b640569535604bb7e1ea956c8085c8c39d42e64b7b5f12f785", func := "redline/redlinelaw11.HunksChecks", spec := "hunksChecks", inPlace := ["internal/bytealg.IndexByteString"], unfollowed := true, recurses := true, apart := false, narrowed := true }
def HunksChecksUptoSaid : Prop := hunksChecksUptoRow.holds Try.pinned (OpenSpec.upto hunksChecksSpec)

/-- 'redlinelaw11.HunksOrder', WHERE WHAT IT READS IS OF BULK AT MOST 1048576: true; the input reads as it did. -/
def hunksOrderUptoRow : OpenClaim := { program := "ytmnajajnbmlihaa", sum := "4bba00e1a1fa98b640569535604bb7e1ea956c8085c8c39d42e64b7b5f12f785", func := "redline/redlinelaw11.HunksOrder", spec := "hunksOrder", inPlace := ["internal/bytealg.IndexByteString"], unfollowed := true, recurses := true, apart := false, narrowed := true }
def HunksOrderUptoSaid : Prop := hunksOrderUptoRow.holds Try.pinned (OpenSpec.upto hunksOrderSpec)

end Rows
end Go.Proofs.Ytmnajajnbmlihaa
