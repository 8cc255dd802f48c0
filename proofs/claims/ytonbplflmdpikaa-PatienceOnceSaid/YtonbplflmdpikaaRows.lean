/-
  No cell of these rows narrows 'for every input' (looked for: loops, veiled, ifaces, maps, wideKeys, modest, calm, conditions, laid).
  DERIVED. THE GIVEN ROWS OF THIS SEAT. 4 by the template 'for every input the law returns true; each argument reads behind the call as it read before'; 0 by the template 'total and deterministic' (their statements: YtonbplflmdpikaaTotals.lean).
  GIVEN WITH THE SEED: the statements are not yours to turn. If you find one false, say at which input.
  Laid BY PROGRAM, IN A SANDBOX (cutbox-rows.mjs): the forced cells as the released guide's own fill.sh prints them over the translation 62772ae60a4dd9e9… (all of the seat's roots in one cut). By AI agents, Wed Nov 11 2026. No macro, syntax, notation, axiom, sorry.
-/
import Derived.Test.YtonbplflmdpikaaChecked
import GoSem.Claim
import GoSem.ClaimJoined
import GoSem.ClaimMapViews
import Derived.JoinedTies
import Derived.KernelRfl
namespace Go.Proofs.Ytonbplflmdpikaa
/- THE CELL 'sum', in the pinned program and in every row, IS THE sha256 OF THE DUMP (.gsa) THAT YtonbplflmdpikaaProg.lean LOADS. Nothing in Lean hashes anything: it is a label: what it is worth is what the hold of that sum in a sandbox is worth. -/
noncomputable def Try.pinned : Pinned := { name := "ytonbplflmdpikaa", sum := "62772ae60a4dd9e993fc51a84b1975b8bd2c38b20d32a6af21d56c9368e56576", checked := Try.checked }
namespace Rows
def none {H : Type} : Left H := { results := [], args := [] }

/-- 'redlinelaw07.PatiencePairs': WHATEVER THE INPUT: true; the input reads as it did. -/
def patiencePairsSpec : ChangeSpec := { name := "patiencePairs", fn := fun _ => fun
  | [d1, d2, d3] => { results := [.lit (.bool true)], args := [d1, d2, d3] }
  | _ => none }
def patiencePairsRow : OpenClaim := { program := "ytonbplflmdpikaa", sum := "62772ae60a4dd9e993fc51a84b1975b8bd2c38b20d32a6af21d56c9368e56576", func := "redline/redlinelaw07.PatiencePairs", spec := "patiencePairs", unfollowed := true, recurses := true, apart := false }
def PatiencePairsSaid : Prop := patiencePairsRow.holds Try.pinned (OpenSpec.ofChange patiencePairsSpec)

/-- ITS FALSE NEIGHBOUR: 'it returns false'. Refute it at one input. -/
def patiencePairsWrong : ChangeSpec := { name := "patiencePairs", fn := fun _ => fun
  | [d1, d2, d3] => { results := [.lit (.bool false)], args := [d1, d2, d3] }
  | _ => none }
def PatiencePairsWrongFalsely : Prop := patiencePairsRow.holds Try.pinned (OpenSpec.ofChange patiencePairsWrong)

/-- 'redlinelaw07.PatienceDiffs': WHATEVER THE INPUT: true; the input reads as it did. -/
def patienceDiffsSpec : ChangeSpec := { name := "patienceDiffs", fn := fun _ => fun
  | [d1, d2] => { results := [.lit (.bool true)], args := [d1, d2] }
  | _ => none }
def patienceDiffsRow : OpenClaim := { program := "ytonbplflmdpikaa", sum := "62772ae60a4dd9e993fc51a84b1975b8bd2c38b20d32a6af21d56c9368e56576", func := "redline/redlinelaw07.PatienceDiffs", spec := "patienceDiffs", unfollowed := true, recurses := true, apart := false }
def PatienceDiffsSaid : Prop := patienceDiffsRow.holds Try.pinned (OpenSpec.ofChange patienceDiffsSpec)

/-- ITS FALSE NEIGHBOUR: 'it returns false'. Refute it at one input. -/
def patienceDiffsWrong : ChangeSpec := { name := "patienceDiffs", fn := fun _ => fun
  | [d1, d2] => { results := [.lit (.bool false)], args := [d1, d2] }
  | _ => none }
def PatienceDiffsWrongFalsely : Prop := patienceDiffsRow.holds Try.pinned (OpenSpec.ofChange patienceDiffsWrong)

/-- 'redlinelaw07.PatienceOnce': WHATEVER THE INPUT: true; the input reads as it did. -/
def patienceOnceSpec : ChangeSpec := { name := "patienceOnce", fn := fun _ => fun
  | [d1, d2] => { results := [.lit (.bool true)], args := [d1, d2] }
  | _ => none }
def patienceOnceRow : OpenClaim := { program := "ytonbplflmdpikaa", sum := "62772ae60a4dd9e993fc51a84b1975b8bd2c38b20d32a6af21d56c9368e56576", func := "redline/redlinelaw07.PatienceOnce", spec := "patienceOnce", unfollowed := true, recurses := true, apart := false }
def PatienceOnceSaid : Prop := patienceOnceRow.holds Try.pinned (OpenSpec.ofChange patienceOnceSpec)

/-- ITS FALSE NEIGHBOUR: 'it returns false'. Refute it at one input. -/
def patienceOnceWrong : ChangeSpec := { name := "patienceOnce", fn := fun _ => fun
  | [d1, d2] => { results := [.lit (.bool false)], args := [d1, d2] }
  | _ => none }
def PatienceOnceWrongFalsely : Prop := patienceOnceRow.holds Try.pinned (OpenSpec.ofChange patienceOnceWrong)

/-- 'redlinelaw07.PatienceHonest': WHATEVER THE INPUT: true; the input reads as it did. -/
def patienceHonestSpec : ChangeSpec := { name := "patienceHonest", fn := fun _ => fun
  | [d1, d2] => { results := [.lit (.bool true)], args := [d1, d2] }
  | _ => none }
def patienceHonestRow : OpenClaim := { program := "ytonbplflmdpikaa", sum := "62772ae60a4dd9e993fc51a84b1975b8bd2c38b20d32a6af21d56c9368e56576", func := "redline/redlinelaw07.PatienceHonest", spec := "patienceHonest", unfollowed := true, recurses := true, apart := false }
def PatienceHonestSaid : Prop := patienceHonestRow.holds Try.pinned (OpenSpec.ofChange patienceHonestSpec)

/-- ITS FALSE NEIGHBOUR: 'it returns false'. Refute it at one input. -/
def patienceHonestWrong : ChangeSpec := { name := "patienceHonest", fn := fun _ => fun
  | [d1, d2] => { results := [.lit (.bool false)], args := [d1, d2] }
  | _ => none }
def PatienceHonestWrongFalsely : Prop := patienceHonestRow.holds Try.pinned (OpenSpec.ofChange patienceHonestWrong)

/- THE SECOND FORM. 'bulk': how many values and letters a reading holds, each counted each time it is reached (what is shared counts as often as it is met; a slice's spare places count too). A statement '..UptoSaid' is the law's where the arguments, and the package variables that the reading takes, are together of bulk at most 1048576: NARROWER than '..Said'. Prove '..Said' where nothing that the law and all that it calls make is longer than what came in: it says more and counts as full. Else prove '..UptoSaid'. A law counts once. -/
mutual
def uptoBulk {H : Type} : DataW H → Nat
  | .lit (.string bytes) => bytes.length + 1
  | .lit _ => 1
  | .nil => 1
  | .ptr d => uptoBulk d + 1
  | .slice elems spare => uptoBulkAll elems + uptoBulkAll spare + 1
  | .agg parts => uptoBulkAll parts + 1
  | .iface _ d => uptoBulk d + 1
  | .map entries => uptoBulkEntries entries + 1
  | .held _ => 1
def uptoBulkAll {H : Type} : List (DataW H) → Nat
  | [] => 0
  | d :: r => uptoBulk d + uptoBulkAll r
def uptoBulkEntries {H : Type} : List (Lit × DataW H) → Nat
  | [] => 0
  | x :: r => uptoBulkEntry x + uptoBulkEntries r
def uptoBulkEntry {H : Type} : Lit × DataW H → Nat
  | (.string bytes, d) => bytes.length + uptoBulk d + 1
  | (_, d) => uptoBulk d + 1
 end
def uptoSmall : (H : Type) → List (DataW H) → Bool := fun _ ds => decide (uptoBulkAll ds ≤ 1048576)
def OpenSpec.upto (s : _root_.Go.ChangeSpec) : _root_.Go.OpenSpec := { _root_.Go.OpenSpec.ofChange s with cond := some uptoSmall }

/-- 'redlinelaw07.PatiencePairs', WHERE WHAT IT READS IS OF BULK AT MOST 1048576: true; the input reads as it did. -/
def patiencePairsUptoRow : OpenClaim := { program := "ytonbplflmdpikaa", sum := "62772ae60a4dd9e993fc51a84b1975b8bd2c38b20d32a6af21d56c9368e56576", func := "redline/redlinelaw07.PatiencePairs", spec := "patiencePairs", unfollowed := true, recurses := true, apart := false, narrowed := true }
def PatiencePairsUptoSaid : Prop := patiencePairsUptoRow.holds Try.pinned (OpenSpec.upto patiencePairsSpec)

/-- 'redlinelaw07.PatienceDiffs', WHERE WHAT IT READS IS OF BULK AT MOST 1048576: true; the input reads as it did. -/
def patienceDiffsUptoRow : OpenClaim := { program := "ytonbplflmdpikaa", sum := "62772ae60a4dd9e993fc51a84b1975b8bd2c38b20d32a6af21d56c9368e56576", func := "redline/redlinelaw07.PatienceDiffs", spec := "patienceDiffs", unfollowed := true, recurses := true, apart := false, narrowed := true }
def PatienceDiffsUptoSaid : Prop := patienceDiffsUptoRow.holds Try.pinned (OpenSpec.upto patienceDiffsSpec)

/-- 'redlinelaw07.PatienceOnce', WHERE WHAT IT READS IS OF BULK AT MOST 1048576: true; the input reads as it did. -/
def patienceOnceUptoRow : OpenClaim := { program := "ytonbplflmdpikaa", sum := "62772ae60a4dd9e993fc51a84b1975b8bd2c38b20d32a6af21d56c9368e56576", func := "redline/redlinelaw07.PatienceOnce", spec := "patienceOnce", unfollowed := true, recurses := true, apart := false, narrowed := true }
def PatienceOnceUptoSaid : Prop := patienceOnceUptoRow.holds Try.pinned (OpenSpec.upto patienceOnceSpec)

/-- 'redlinelaw07.PatienceHonest', WHERE WHAT IT READS IS OF BULK AT MOST 1048576: true; the input reads as it did. -/
def patienceHonestUptoRow : OpenClaim := { program := "ytonbplflmdpikaa", sum := "62772ae60a4dd9e993fc51a84b1975b8bd2c38b20d32a6af21d56c9368e56576", func := "redline/redlinelaw07.PatienceHonest", spec := "patienceHonest", unfollowed := true, recurses := true, apart := false, narrowed := true }
def PatienceHonestUptoSaid : Prop := patienceHonestUptoRow.holds Try.pinned (OpenSpec.upto patienceHonestSpec)

end Rows
end Go.Proofs.Ytonbplflmdpikaa
