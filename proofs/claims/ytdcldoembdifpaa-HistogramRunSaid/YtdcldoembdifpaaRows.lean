/-
  No cell of these rows narrows 'for every input' (looked for: loops, veiled, ifaces, maps, wideKeys, modest, calm, conditions, laid).
  DERIVED. THE GIVEN ROWS OF THIS SEAT. 12 by the template 'for every input the law returns true; each argument reads behind the call as it read before'; 0 by the template 'total and deterministic' (their statements: YtdcldoembdifpaaTotals.lean).
  GIVEN WITH THE SEED: the statements are not yours to turn. If you find one false, say at which input.
  Laid BY PROGRAM, IN A SANDBOX (cutbox-rows.mjs): the forced cells as the released guide's own fill.sh prints them over the translation 3e3221cc56c3df2f… (all of the seat's roots in one cut). By AI agents, Wed Nov 11 2026. No macro, syntax, notation, axiom, sorry.
-/
import Derived.Test.YtdcldoembdifpaaChecked
import GoSem.Claim
import GoSem.ClaimJoined
import GoSem.ClaimMapViews
import Derived.JoinedTies
import Derived.KernelRfl
namespace Go.Proofs.Ytdcldoembdifpaa
/- THE CELL 'sum', in the pinned program and in every row, IS THE sha256 OF THE DUMP (.gsa) THAT YtdcldoembdifpaaProg.lean LOADS. Nothing in Lean hashes anything: it is a label: what it is worth is what the hold of that sum in a sandbox is worth. -/
noncomputable def Try.pinned : Pinned := { name := "ytdcldoembdifpaa", sum := "3e3221cc56c3df2f164384262b6c3bfa01c807e80ff3c445411646db5a1d56f8", checked := Try.checked }
namespace Rows
def none {H : Type} : Left H := { results := [], args := [] }

/-- 'redlinelaw09.SpeedyGreedy': WHATEVER THE INPUT: true; the input reads as it did. -/
def speedyGreedySpec : ChangeSpec := { name := "speedyGreedy", fn := fun _ => fun
  | [d1, d2, d3] => { results := [.lit (.bool true)], args := [d1, d2, d3] }
  | _ => none }
def speedyGreedyRow : OpenClaim := { program := "ytdcldoembdifpaa", sum := "3e3221cc56c3df2f164384262b6c3bfa01c807e80ff3c445411646db5a1d56f8", func := "redline/redlinelaw09.SpeedyGreedy", spec := "speedyGreedy", apart := false }
def SpeedyGreedySaid : Prop := speedyGreedyRow.holds Try.pinned (OpenSpec.ofChange speedyGreedySpec)

/-- ITS FALSE NEIGHBOUR: 'it returns false'. Refute it at one input. -/
def speedyGreedyWrong : ChangeSpec := { name := "speedyGreedy", fn := fun _ => fun
  | [d1, d2, d3] => { results := [.lit (.bool false)], args := [d1, d2, d3] }
  | _ => none }
def SpeedyGreedyWrongFalsely : Prop := speedyGreedyRow.holds Try.pinned (OpenSpec.ofChange speedyGreedyWrong)

/-- 'redlinelaw08.HistogramBest': WHATEVER THE INPUT: true; the input reads as it did. -/
def histogramBestSpec : ChangeSpec := { name := "histogramBest", fn := fun _ => fun
  | [d1, d2] => { results := [.lit (.bool true)], args := [d1, d2] }
  | _ => none }
def histogramBestRow : OpenClaim := { program := "ytdcldoembdifpaa", sum := "3e3221cc56c3df2f164384262b6c3bfa01c807e80ff3c445411646db5a1d56f8", func := "redline/redlinelaw08.HistogramBest", spec := "histogramBest", apart := false }
def HistogramBestSaid : Prop := histogramBestRow.holds Try.pinned (OpenSpec.ofChange histogramBestSpec)

/-- ITS FALSE NEIGHBOUR: 'it returns false'. Refute it at one input. -/
def histogramBestWrong : ChangeSpec := { name := "histogramBest", fn := fun _ => fun
  | [d1, d2] => { results := [.lit (.bool false)], args := [d1, d2] }
  | _ => none }
def HistogramBestWrongFalsely : Prop := histogramBestRow.holds Try.pinned (OpenSpec.ofChange histogramBestWrong)

/-- 'redlinelaw06.MinimalDiffs': WHATEVER THE INPUT: true; the input reads as it did. -/
def minimalDiffsSpec : ChangeSpec := { name := "minimalDiffs", fn := fun _ => fun
  | [d1, d2] => { results := [.lit (.bool true)], args := [d1, d2] }
  | _ => none }
def minimalDiffsRow : OpenClaim := { program := "ytdcldoembdifpaa", sum := "3e3221cc56c3df2f164384262b6c3bfa01c807e80ff3c445411646db5a1d56f8", func := "redline/redlinelaw06.MinimalDiffs", spec := "minimalDiffs", unfollowed := true, recurses := true, apart := false }
def MinimalDiffsSaid : Prop := minimalDiffsRow.holds Try.pinned (OpenSpec.ofChange minimalDiffsSpec)

/-- ITS FALSE NEIGHBOUR: 'it returns false'. Refute it at one input. -/
def minimalDiffsWrong : ChangeSpec := { name := "minimalDiffs", fn := fun _ => fun
  | [d1, d2] => { results := [.lit (.bool false)], args := [d1, d2] }
  | _ => none }
def MinimalDiffsWrongFalsely : Prop := minimalDiffsRow.holds Try.pinned (OpenSpec.ofChange minimalDiffsWrong)

/-- 'redlinelaw06.MinimalTurns': WHATEVER THE INPUT: true; the input reads as it did. -/
def minimalTurnsSpec : ChangeSpec := { name := "minimalTurns", fn := fun _ => fun
  | [d1, d2, d3] => { results := [.lit (.bool true)], args := [d1, d2, d3] }
  | _ => none }
def minimalTurnsRow : OpenClaim := { program := "ytdcldoembdifpaa", sum := "3e3221cc56c3df2f164384262b6c3bfa01c807e80ff3c445411646db5a1d56f8", func := "redline/redlinelaw06.MinimalTurns", spec := "minimalTurns", unfollowed := true, recurses := true, apart := false }
def MinimalTurnsSaid : Prop := minimalTurnsRow.holds Try.pinned (OpenSpec.ofChange minimalTurnsSpec)

/-- ITS FALSE NEIGHBOUR: 'it returns false'. Refute it at one input. -/
def minimalTurnsWrong : ChangeSpec := { name := "minimalTurns", fn := fun _ => fun
  | [d1, d2, d3] => { results := [.lit (.bool false)], args := [d1, d2, d3] }
  | _ => none }
def MinimalTurnsWrongFalsely : Prop := minimalTurnsRow.holds Try.pinned (OpenSpec.ofChange minimalTurnsWrong)

/-- 'redlinelaw06.MinimalWhole': WHATEVER THE INPUT: true; the input reads as it did. -/
def minimalWholeSpec : ChangeSpec := { name := "minimalWhole", fn := fun _ => fun
  | [d1, d2] => { results := [.lit (.bool true)], args := [d1, d2] }
  | _ => none }
def minimalWholeRow : OpenClaim := { program := "ytdcldoembdifpaa", sum := "3e3221cc56c3df2f164384262b6c3bfa01c807e80ff3c445411646db5a1d56f8", func := "redline/redlinelaw06.MinimalWhole", spec := "minimalWhole", unfollowed := true, recurses := true, apart := false }
def MinimalWholeSaid : Prop := minimalWholeRow.holds Try.pinned (OpenSpec.ofChange minimalWholeSpec)

/-- ITS FALSE NEIGHBOUR: 'it returns false'. Refute it at one input. -/
def minimalWholeWrong : ChangeSpec := { name := "minimalWhole", fn := fun _ => fun
  | [d1, d2] => { results := [.lit (.bool false)], args := [d1, d2] }
  | _ => none }
def MinimalWholeWrongFalsely : Prop := minimalWholeRow.holds Try.pinned (OpenSpec.ofChange minimalWholeWrong)

/-- 'redlinelaw06.MinimalSteps': WHATEVER THE INPUT: true; the input reads as it did. -/
def minimalStepsSpec : ChangeSpec := { name := "minimalSteps", fn := fun _ => fun
  | [d1, d2, d3, d4, d5, d6] => { results := [.lit (.bool true)], args := [d1, d2, d3, d4, d5, d6] }
  | _ => none }
def minimalStepsRow : OpenClaim := { program := "ytdcldoembdifpaa", sum := "3e3221cc56c3df2f164384262b6c3bfa01c807e80ff3c445411646db5a1d56f8", func := "redline/redlinelaw06.MinimalSteps", spec := "minimalSteps", unfollowed := true, recurses := true, apart := false }
def MinimalStepsSaid : Prop := minimalStepsRow.holds Try.pinned (OpenSpec.ofChange minimalStepsSpec)

/-- ITS FALSE NEIGHBOUR: 'it returns false'. Refute it at one input. -/
def minimalStepsWrong : ChangeSpec := { name := "minimalSteps", fn := fun _ => fun
  | [d1, d2, d3, d4, d5, d6] => { results := [.lit (.bool false)], args := [d1, d2, d3, d4, d5, d6] }
  | _ => none }
def MinimalStepsWrongFalsely : Prop := minimalStepsRow.holds Try.pinned (OpenSpec.ofChange minimalStepsWrong)

/-- 'redlinelaw06.MinimalMost': WHATEVER THE INPUT: true; the input reads as it did. -/
def minimalMostSpec : ChangeSpec := { name := "minimalMost", fn := fun _ => fun
  | [d1, d2, d3] => { results := [.lit (.bool true)], args := [d1, d2, d3] }
  | _ => none }
def minimalMostRow : OpenClaim := { program := "ytdcldoembdifpaa", sum := "3e3221cc56c3df2f164384262b6c3bfa01c807e80ff3c445411646db5a1d56f8", func := "redline/redlinelaw06.MinimalMost", spec := "minimalMost", unfollowed := true, recurses := true, apart := false }
def MinimalMostSaid : Prop := minimalMostRow.holds Try.pinned (OpenSpec.ofChange minimalMostSpec)

/-- ITS FALSE NEIGHBOUR: 'it returns false'. Refute it at one input. -/
def minimalMostWrong : ChangeSpec := { name := "minimalMost", fn := fun _ => fun
  | [d1, d2, d3] => { results := [.lit (.bool false)], args := [d1, d2, d3] }
  | _ => none }
def MinimalMostWrongFalsely : Prop := minimalMostRow.holds Try.pinned (OpenSpec.ofChange minimalMostWrong)

/-- 'redlinelaw09.SpeedyDiffs': WHATEVER THE INPUT: true; the input reads as it did. -/
def speedyDiffsSpec : ChangeSpec := { name := "speedyDiffs", fn := fun _ => fun
  | [d1, d2, d3] => { results := [.lit (.bool true)], args := [d1, d2, d3] }
  | _ => none }
def speedyDiffsRow : OpenClaim := { program := "ytdcldoembdifpaa", sum := "3e3221cc56c3df2f164384262b6c3bfa01c807e80ff3c445411646db5a1d56f8", func := "redline/redlinelaw09.SpeedyDiffs", spec := "speedyDiffs", unfollowed := true, recurses := true, apart := false }
def SpeedyDiffsSaid : Prop := speedyDiffsRow.holds Try.pinned (OpenSpec.ofChange speedyDiffsSpec)

/-- ITS FALSE NEIGHBOUR: 'it returns false'. Refute it at one input. -/
def speedyDiffsWrong : ChangeSpec := { name := "speedyDiffs", fn := fun _ => fun
  | [d1, d2, d3] => { results := [.lit (.bool false)], args := [d1, d2, d3] }
  | _ => none }
def SpeedyDiffsWrongFalsely : Prop := speedyDiffsRow.holds Try.pinned (OpenSpec.ofChange speedyDiffsWrong)

/-- 'redlinelaw09.SpeedyHonest': WHATEVER THE INPUT: true; the input reads as it did. -/
def speedyHonestSpec : ChangeSpec := { name := "speedyHonest", fn := fun _ => fun
  | [d1, d2, d3] => { results := [.lit (.bool true)], args := [d1, d2, d3] }
  | _ => none }
def speedyHonestRow : OpenClaim := { program := "ytdcldoembdifpaa", sum := "3e3221cc56c3df2f164384262b6c3bfa01c807e80ff3c445411646db5a1d56f8", func := "redline/redlinelaw09.SpeedyHonest", spec := "speedyHonest", unfollowed := true, recurses := true, apart := false }
def SpeedyHonestSaid : Prop := speedyHonestRow.holds Try.pinned (OpenSpec.ofChange speedyHonestSpec)

/-- ITS FALSE NEIGHBOUR: 'it returns false'. Refute it at one input. -/
def speedyHonestWrong : ChangeSpec := { name := "speedyHonest", fn := fun _ => fun
  | [d1, d2, d3] => { results := [.lit (.bool false)], args := [d1, d2, d3] }
  | _ => none }
def SpeedyHonestWrongFalsely : Prop := speedyHonestRow.holds Try.pinned (OpenSpec.ofChange speedyHonestWrong)

/-- 'redlinelaw08.HistogramDiffs': WHATEVER THE INPUT: true; the input reads as it did. -/
def histogramDiffsSpec : ChangeSpec := { name := "histogramDiffs", fn := fun _ => fun
  | [d1, d2] => { results := [.lit (.bool true)], args := [d1, d2] }
  | _ => none }
def histogramDiffsRow : OpenClaim := { program := "ytdcldoembdifpaa", sum := "3e3221cc56c3df2f164384262b6c3bfa01c807e80ff3c445411646db5a1d56f8", func := "redline/redlinelaw08.HistogramDiffs", spec := "histogramDiffs", unfollowed := true, recurses := true, apart := false }
def HistogramDiffsSaid : Prop := histogramDiffsRow.holds Try.pinned (OpenSpec.ofChange histogramDiffsSpec)

/-- ITS FALSE NEIGHBOUR: 'it returns false'. Refute it at one input. -/
def histogramDiffsWrong : ChangeSpec := { name := "histogramDiffs", fn := fun _ => fun
  | [d1, d2] => { results := [.lit (.bool false)], args := [d1, d2] }
  | _ => none }
def HistogramDiffsWrongFalsely : Prop := histogramDiffsRow.holds Try.pinned (OpenSpec.ofChange histogramDiffsWrong)

/-- 'redlinelaw08.HistogramRun': WHATEVER THE INPUT: true; the input reads as it did. -/
def histogramRunSpec : ChangeSpec := { name := "histogramRun", fn := fun _ => fun
  | [d1, d2] => { results := [.lit (.bool true)], args := [d1, d2] }
  | _ => none }
def histogramRunRow : OpenClaim := { program := "ytdcldoembdifpaa", sum := "3e3221cc56c3df2f164384262b6c3bfa01c807e80ff3c445411646db5a1d56f8", func := "redline/redlinelaw08.HistogramRun", spec := "histogramRun", unfollowed := true, recurses := true, apart := false }
def HistogramRunSaid : Prop := histogramRunRow.holds Try.pinned (OpenSpec.ofChange histogramRunSpec)

/-- ITS FALSE NEIGHBOUR: 'it returns false'. Refute it at one input. -/
def histogramRunWrong : ChangeSpec := { name := "histogramRun", fn := fun _ => fun
  | [d1, d2] => { results := [.lit (.bool false)], args := [d1, d2] }
  | _ => none }
def HistogramRunWrongFalsely : Prop := histogramRunRow.holds Try.pinned (OpenSpec.ofChange histogramRunWrong)

/-- 'redlinelaw08.HistogramHonest': WHATEVER THE INPUT: true; the input reads as it did. -/
def histogramHonestSpec : ChangeSpec := { name := "histogramHonest", fn := fun _ => fun
  | [d1, d2] => { results := [.lit (.bool true)], args := [d1, d2] }
  | _ => none }
def histogramHonestRow : OpenClaim := { program := "ytdcldoembdifpaa", sum := "3e3221cc56c3df2f164384262b6c3bfa01c807e80ff3c445411646db5a1d56f8", func := "redline/redlinelaw08.HistogramHonest", spec := "histogramHonest", unfollowed := true, recurses := true, apart := false }
def HistogramHonestSaid : Prop := histogramHonestRow.holds Try.pinned (OpenSpec.ofChange histogramHonestSpec)

/-- ITS FALSE NEIGHBOUR: 'it returns false'. Refute it at one input. -/
def histogramHonestWrong : ChangeSpec := { name := "histogramHonest", fn := fun _ => fun
  | [d1, d2] => { results := [.lit (.bool false)], args := [d1, d2] }
  | _ => none }
def HistogramHonestWrongFalsely : Prop := histogramHonestRow.holds Try.pinned (OpenSpec.ofChange histogramHonestWrong)

/- THE SECOND FORM. 'bulk': how many values and letters a reading holds, each counted each time it is reached (what is shared counts as often as it is met; a slice's spare places count too). A statement '..UptoSaid' is the law's where the arguments, and the package variables that the reading takes, are together of bulk at most 1048576: NARROWER than '..Said'. Prove '..Said' where nothing that the law and all that it calls make is longer than what came in: it says more and counts as full. Else prove '..UptoSaid'. A law counts once. -/
mutual
def uptoBulk {H : Type} : DataW H → Nat
  | .lit (.string bytes) => bytes.length + 1
  | .lit _ => 1
  | .nil => 1
  | .ptr d => uptoBulk d + 1
  | .slice elems spare => uptoBulkAll elems + uptoBulkAll spare + 1
  | .agg parts => uptoBulkAll parts + 1
  | .iface _ d => uptoBulk d + 1
  | .map entries => uptoBulkEntries entries + 1
  | .held _ => 1
def uptoBulkAll {H : Type} : List (DataW H) → Nat
  | [] => 0
  | d :: r => uptoBulk d + uptoBulkAll r
def uptoBulkEntries {H : Type} : List (Lit × DataW H) → Nat
  | [] => 0
  | x :: r => uptoBulkEntry x + uptoBulkEntries r
def uptoBulkEntry {H : Type} : Lit × DataW H → Nat
  | (.string bytes, d) => bytes.length + uptoBulk d + 1
  | (_, d) => uptoBulk d + 1
 end
def uptoSmall : (H : Type) → List (DataW H) → Bool := fun _ ds => decide (uptoBulkAll ds ≤ 1048576)
def OpenSpec.upto (s : _root_.Go.ChangeSpec) : _root_.Go.OpenSpec := { _root_.Go.OpenSpec.ofChange s with cond := some uptoSmall }

/-- 'redlinelaw09.SpeedyGreedy', WHERE WHAT IT READS IS OF BULK AT MOST 1048576: true; the input reads as it did. -/
def speedyGreedyUptoRow : OpenClaim := { program := "ytdcldoembdifpaa", sum := "3e3221cc56c3df2f164384262b6c3bfa01c807e80ff3c445411646db5a1d56f8", func := "redline/redlinelaw09.SpeedyGreedy", spec := "speedyGreedy", apart := false, narrowed := true }
def SpeedyGreedyUptoSaid : Prop := speedyGreedyUptoRow.holds Try.pinned (OpenSpec.upto speedyGreedySpec)

/-- 'redlinelaw08.HistogramBest', WHERE WHAT IT READS IS OF BULK AT MOST 1048576: true; the input reads as it did. -/
def histogramBestUptoRow : OpenClaim := { program := "ytdcldoembdifpaa", sum := "3e3221cc56c3df2f164384262b6c3bfa01c807e80ff3c445411646db5a1d56f8", func := "redline/redlinelaw08.HistogramBest", spec := "histogramBest", apart := false, narrowed := true }
def HistogramBestUptoSaid : Prop := histogramBestUptoRow.holds Try.pinned (OpenSpec.upto histogramBestSpec)

/-- 'redlinelaw06.MinimalDiffs', WHERE WHAT IT READS IS OF BULK AT MOST 1048576: true; the input reads as it did. -/
def minimalDiffsUptoRow : OpenClaim := { program := "ytdcldoembdifpaa", sum := "3e3221cc56c3df2f164384262b6c3bfa01c807e80ff3c445411646db5a1d56f8", func := "redline/redlinelaw06.MinimalDiffs", spec := "minimalDiffs", unfollowed := true, recurses := true, apart := false, narrowed := true }
def MinimalDiffsUptoSaid : Prop := minimalDiffsUptoRow.holds Try.pinned (OpenSpec.upto minimalDiffsSpec)

/-- 'redlinelaw06.MinimalTurns', WHERE WHAT IT READS IS OF BULK AT MOST 1048576: true; the input reads as it did. -/
def minimalTurnsUptoRow : OpenClaim := { program := "ytdcldoembdifpaa", sum := "3e3221cc56c3df2f164384262b6c3bfa01c807e80ff3c445411646db5a1d56f8", func := "redline/redlinelaw06.MinimalTurns", spec := "minimalTurns", unfollowed := true, recurses := true, apart := false, narrowed := true }
def MinimalTurnsUptoSaid : Prop := minimalTurnsUptoRow.holds Try.pinned (OpenSpec.upto minimalTurnsSpec)

/-- 'redlinelaw06.MinimalWhole', WHERE WHAT IT READS IS OF BULK AT MOST 1048576: true; the input reads as it did. -/
def minimalWholeUptoRow : OpenClaim := { program := "ytdcldoembdifpaa", sum := "3e3221cc56c3df2f164384262b6c3bfa01c807e80ff3c445411646db5a1d56f8", func := "redline/redlinelaw06.MinimalWhole", spec := "minimalWhole", unfollowed := true, recurses := true, apart := false, narrowed := true }
def MinimalWholeUptoSaid : Prop := minimalWholeUptoRow.holds Try.pinned (OpenSpec.upto minimalWholeSpec)

/-- 'redlinelaw06.MinimalSteps', WHERE WHAT IT READS IS OF BULK AT MOST 1048576: true; the input reads as it did. -/
def minimalStepsUptoRow : OpenClaim := { program := "ytdcldoembdifpaa", sum := "3e3221cc56c3df2f164384262b6c3bfa01c807e80ff3c445411646db5a1d56f8", func := "redline/redlinelaw06.MinimalSteps", spec := "minimalSteps", unfollowed := true, recurses := true, apart := false, narrowed := true }
def MinimalStepsUptoSaid : Prop := minimalStepsUptoRow.holds Try.pinned (OpenSpec.upto minimalStepsSpec)

/-- 'redlinelaw06.MinimalMost', WHERE WHAT IT READS IS OF BULK AT MOST 1048576: true; the input reads as it did. -/
def minimalMostUptoRow : OpenClaim := { program := "ytdcldoembdifpaa", sum := "3e3221cc56c3df2f164384262b6c3bfa01c807e80ff3c445411646db5a1d56f8", func := "redline/redlinelaw06.MinimalMost", spec := "minimalMost", unfollowed := true, recurses := true, apart := false, narrowed := true }
def MinimalMostUptoSaid : Prop := minimalMostUptoRow.holds Try.pinned (OpenSpec.upto minimalMostSpec)

/-- 'redlinelaw09.SpeedyDiffs', WHERE WHAT IT READS IS OF BULK AT MOST 1048576: true; the input reads as it did. -/
def speedyDiffsUptoRow : OpenClaim := { program := "ytdcldoembdifpaa", sum := "3e3221cc56c3df2f164384262b6c3bfa01c807e80ff3c445411646db5a1d56f8", func := "redline/redlinelaw09.SpeedyDiffs", spec := "speedyDiffs", unfollowed := true, recurses := true, apart := false, narrowed := true }
def SpeedyDiffsUptoSaid : Prop := speedyDiffsUptoRow.holds Try.pinned (OpenSpec.upto speedyDiffsSpec)

/-- 'redlinelaw09.SpeedyHonest', WHERE WHAT IT READS IS OF BULK AT MOST 1048576: true; the input reads as it did. -/
def speedyHonestUptoRow : OpenClaim := { program := "ytdcldoembdifpaa", sum := "3e3221cc56c3df2f164384262b6c3bfa01c807e80ff3c445411646db5a1d56f8", func := "redline/redlinelaw09.SpeedyHonest", spec := "speedyHonest", unfollowed := true, recurses := true, apart := false, narrowed := true }
def SpeedyHonestUptoSaid : Prop := speedyHonestUptoRow.holds Try.pinned (OpenSpec.upto speedyHonestSpec)

/-- 'redlinelaw08.HistogramDiffs', WHERE WHAT IT READS IS OF BULK AT MOST 1048576: true; the input reads as it did. -/
def histogramDiffsUptoRow : OpenClaim := { program := "ytdcldoembdifpaa", sum := "3e3221cc56c3df2f164384262b6c3bfa01c807e80ff3c445411646db5a1d56f8", func := "redline/redlinelaw08.HistogramDiffs", spec := "histogramDiffs", unfollowed := true, recurses := true, apart := false, narrowed := true }
def HistogramDiffsUptoSaid : Prop := histogramDiffsUptoRow.holds Try.pinned (OpenSpec.upto histogramDiffsSpec)

/-- 'redlinelaw08.HistogramRun', WHERE WHAT IT READS IS OF BULK AT MOST 1048576: true; the input reads as it did. -/
def histogramRunUptoRow : OpenClaim := { program := "ytdcldoembdifpaa", sum := "3e3221cc56c3df2f164384262b6c3bfa01c807e80ff3c445411646db5a1d56f8", func := "redline/redlinelaw08.HistogramRun", spec := "histogramRun", unfollowed := true, recurses := true, apart := false, narrowed := true }
def HistogramRunUptoSaid : Prop := histogramRunUptoRow.holds Try.pinned (OpenSpec.upto histogramRunSpec)

/-- 'redlinelaw08.HistogramHonest', WHERE WHAT IT READS IS OF BULK AT MOST 1048576: true; the input reads as it did. -/
def histogramHonestUptoRow : OpenClaim := { program := "ytdcldoembdifpaa", sum := "3e3221cc56c3df2f164384262b6c3bfa01c807e80ff3c445411646db5a1d56f8", func := "redline/redlinelaw08.HistogramHonest", spec := "histogramHonest", unfollowed := true, recurses := true, apart := false, narrowed := true }
def HistogramHonestUptoSaid : Prop := histogramHonestUptoRow.holds Try.pinned (OpenSpec.upto histogramHonestSpec)

end Rows
end Go.Proofs.Ytdcldoembdifpaa
