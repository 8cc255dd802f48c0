/-
  NARROWER THAN 'FOR EVERY INPUT', by the rows' own cells (each row's printed sentence says how): CanonLines: laid · CanonTells: laid · CanonOrder: laid · InternTables: laid · InternClasses: laid · InternGrows: laid · InternParts: laid.
  DERIVED. THE GIVEN ROWS OF THIS SEAT. 7 by the template 'for every input the law returns true; each argument reads behind the call as it read before'; 0 by the template 'total and deterministic' (their statements: YtglffceopijogaaDoorTotals.lean).
  GIVEN WITH THE SEED: the statements are not yours to turn. If you find one false, say at which input.
  Laid BY PROGRAM, IN A SANDBOX (cutbox-rows.mjs): the forced cells as the released guide's own fill.sh prints them over the translation f883a1e1b5325ac7… (all of the seat's roots in one cut). By AI agents, Wed Nov 11 2026. No macro, syntax, notation, axiom, sorry.
-/
import Derived.Test.YtglffceopijogaaDoorChecked
import GoSem.PinnedTables
import GoSem.Claim
import GoSem.ClaimJoined
import GoSem.ClaimMapViews
import Derived.JoinedTies
import Derived.KernelRfl
namespace Go.Proofs.YtglffceopijogaaDoor
/- THE CELL 'sum', in the pinned program and in every row, IS THE sha256 OF THE DUMP (.gsa) THAT YtglffceopijogaaDoorProg.lean LOADS. Nothing in Lean hashes anything: it is a label: what it is worth is what the hold of that sum in a sandbox is worth. -/
noncomputable def Tryd.pinned : Pinned := { name := "ytglffceopijogaadoor", sum := "f883a1e1b5325ac7c859ca6eaa4056025fa88227ec279411dda4600b6e1a3dec", checked := Tryd.checked }
namespace Rows
def none {H : Type} : Left H := { results := [], args := [] }

/- WHAT THE LISTED PACKAGE-LEVEL VARIABLES READ AS WHEN THE CALL BEGINS. Each datum BY PROGRAM (the guide's laid-datum.mjs) off the statement by which the dump's own 'gosem.cut.vars' lays the variable. In a bare row this is a premise. The card (YtglffceopijogaaDoorCards.lean) ties it to the program's text. -/
def laid_unicode_utf8_acceptRanges {H : Type} : DataW H := .agg [.agg [.lit (.int .u8 128), .lit (.int .u8 191)], .agg [.lit (.int .u8 160), .lit (.int .u8 191)], .agg [.lit (.int .u8 128), .lit (.int .u8 159)], .agg [.lit (.int .u8 144), .lit (.int .u8 191)], .agg [.lit (.int .u8 128), .lit (.int .u8 143)], .agg [.lit (.int .u8 0), .lit (.int .u8 0)], .agg [.lit (.int .u8 0), .lit (.int .u8 0)], .agg [.lit (.int .u8 0), .lit (.int .u8 0)], .agg [.lit (.int .u8 0), .lit (.int .u8 0)], .agg [.lit (.int .u8 0), .lit (.int .u8 0)], .agg [.lit (.int .u8 0), .lit (.int .u8 0)], .agg [.lit (.int .u8 0), .lit (.int .u8 0)], .agg [.lit (.int .u8 0), .lit (.int .u8 0)], .agg [.lit (.int .u8 0), .lit (.int .u8 0)], .agg [.lit (.int .u8 0), .lit (.int .u8 0)], .agg [.lit (.int .u8 0), .lit (.int .u8 0)]]
/-- One of Go's own tables, pinned by name: the form's constant. -/
def laid_unicode_utf8_first : DataW Unit := Go.Pinned.utf8First

/-- 'redlinelaw03.CanonLines': WHATEVER THE INPUT: true; the input reads as it did. -/
def canonLinesSpec : ChangeSpec := { name := "canonLines", fn := fun _ => fun
  | [d1, d2] => { results := [.lit (.bool true)], args := [d1, d2] }
  | _ => none }
def canonLinesRow : OpenClaim := { program := "ytglffceopijogaadoor", sum := "f883a1e1b5325ac7c859ca6eaa4056025fa88227ec279411dda4600b6e1a3dec", func := "redline/redlinelaw03.CanonLines", spec := "canonLines", inPlace := ["internal/abi.NoEscape", "internal/bytealg.MakeNoZero", "internal/bytealg.IndexByteString", "internal/bytealg.IndexString"], unfollowed := true, recurses := true, named := ["unicode/utf8.first", "unicode/utf8.acceptRanges", "internal/bytealg.MaxLen"], apart := false, laid := [("unicode/utf8.acceptRanges", laid_unicode_utf8_acceptRanges), ("unicode/utf8.first", laid_unicode_utf8_first)] }
def CanonLinesSaid : Prop := canonLinesRow.holds Tryd.pinned (OpenSpec.ofChange canonLinesSpec)

/-- ITS FALSE NEIGHBOUR: 'it returns false'. Refute it at one input. -/
def canonLinesWrong : ChangeSpec := { name := "canonLines", fn := fun _ => fun
  | [d1, d2] => { results := [.lit (.bool false)], args := [d1, d2] }
  | _ => none }
def CanonLinesWrongFalsely : Prop := canonLinesRow.holds Tryd.pinned (OpenSpec.ofChange canonLinesWrong)

/-- 'redlinelaw03.CanonTells': WHATEVER THE INPUT: true; the input reads as it did. -/
def canonTellsSpec : ChangeSpec := { name := "canonTells", fn := fun _ => fun
  | [d1, d2, d3] => { results := [.lit (.bool true)], args := [d1, d2, d3] }
  | _ => none }
def canonTellsRow : OpenClaim := { program := "ytglffceopijogaadoor", sum := "f883a1e1b5325ac7c859ca6eaa4056025fa88227ec279411dda4600b6e1a3dec", func := "redline/redlinelaw03.CanonTells", spec := "canonTells", inPlace := ["internal/abi.NoEscape", "internal/bytealg.MakeNoZero", "internal/bytealg.IndexByteString", "internal/bytealg.IndexString"], unfollowed := true, recurses := true, named := ["unicode/utf8.first", "unicode/utf8.acceptRanges", "internal/bytealg.MaxLen"], apart := false, laid := [("unicode/utf8.acceptRanges", laid_unicode_utf8_acceptRanges), ("unicode/utf8.first", laid_unicode_utf8_first)] }
def CanonTellsSaid : Prop := canonTellsRow.holds Tryd.pinned (OpenSpec.ofChange canonTellsSpec)

/-- ITS FALSE NEIGHBOUR: 'it returns false'. Refute it at one input. -/
def canonTellsWrong : ChangeSpec := { name := "canonTells", fn := fun _ => fun
  | [d1, d2, d3] => { results := [.lit (.bool false)], args := [d1, d2, d3] }
  | _ => none }
def CanonTellsWrongFalsely : Prop := canonTellsRow.holds Tryd.pinned (OpenSpec.ofChange canonTellsWrong)

/-- 'redlinelaw03.CanonOrder': WHATEVER THE INPUT: true; the input reads as it did. -/
def canonOrderSpec : ChangeSpec := { name := "canonOrder", fn := fun _ => fun
  | [d1, d2, d3, d4] => { results := [.lit (.bool true)], args := [d1, d2, d3, d4] }
  | _ => none }
def canonOrderRow : OpenClaim := { program := "ytglffceopijogaadoor", sum := "f883a1e1b5325ac7c859ca6eaa4056025fa88227ec279411dda4600b6e1a3dec", func := "redline/redlinelaw03.CanonOrder", spec := "canonOrder", inPlace := ["internal/abi.NoEscape", "internal/bytealg.MakeNoZero", "internal/bytealg.IndexByteString", "internal/bytealg.IndexString"], unfollowed := true, recurses := true, named := ["unicode/utf8.first", "unicode/utf8.acceptRanges", "internal/bytealg.MaxLen"], apart := false, laid := [("unicode/utf8.acceptRanges", laid_unicode_utf8_acceptRanges), ("unicode/utf8.first", laid_unicode_utf8_first)] }
def CanonOrderSaid : Prop := canonOrderRow.holds Tryd.pinned (OpenSpec.ofChange canonOrderSpec)

/-- ITS FALSE NEIGHBOUR: 'it returns false'. Refute it at one input. -/
def canonOrderWrong : ChangeSpec := { name := "canonOrder", fn := fun _ => fun
  | [d1, d2, d3, d4] => { results := [.lit (.bool false)], args := [d1, d2, d3, d4] }
  | _ => none }
def CanonOrderWrongFalsely : Prop := canonOrderRow.holds Tryd.pinned (OpenSpec.ofChange canonOrderWrong)

/-- 'redlinelaw04.InternTables': WHATEVER THE INPUT: true; the input reads as it did. -/
def internTablesSpec : ChangeSpec := { name := "internTables", fn := fun _ => fun
  | [d1, d2, d3] => { results := [.lit (.bool true)], args := [d1, d2, d3] }
  | _ => none }
def internTablesRow : OpenClaim := { program := "ytglffceopijogaadoor", sum := "f883a1e1b5325ac7c859ca6eaa4056025fa88227ec279411dda4600b6e1a3dec", func := "redline/redlinelaw04.InternTables", spec := "internTables", inPlace := ["internal/abi.NoEscape", "internal/bytealg.MakeNoZero", "internal/bytealg.IndexByteString", "internal/bytealg.IndexString"], unfollowed := true, recurses := true, named := ["unicode/utf8.first", "unicode/utf8.acceptRanges", "internal/bytealg.MaxLen"], apart := false, laid := [("unicode/utf8.acceptRanges", laid_unicode_utf8_acceptRanges), ("unicode/utf8.first", laid_unicode_utf8_first)] }
def InternTablesSaid : Prop := internTablesRow.holds Tryd.pinned (OpenSpec.ofChange internTablesSpec)

/-- ITS FALSE NEIGHBOUR: 'it returns false'. Refute it at one input. -/
def internTablesWrong : ChangeSpec := { name := "internTables", fn := fun _ => fun
  | [d1, d2, d3] => { results := [.lit (.bool false)], args := [d1, d2, d3] }
  | _ => none }
def InternTablesWrongFalsely : Prop := internTablesRow.holds Tryd.pinned (OpenSpec.ofChange internTablesWrong)

/-- 'redlinelaw04.InternClasses': WHATEVER THE INPUT: true; the input reads as it did. -/
def internClassesSpec : ChangeSpec := { name := "internClasses", fn := fun _ => fun
  | [d1, d2, d3] => { results := [.lit (.bool true)], args := [d1, d2, d3] }
  | _ => none }
def internClassesRow : OpenClaim := { program := "ytglffceopijogaadoor", sum := "f883a1e1b5325ac7c859ca6eaa4056025fa88227ec279411dda4600b6e1a3dec", func := "redline/redlinelaw04.InternClasses", spec := "internClasses", inPlace := ["internal/abi.NoEscape", "internal/bytealg.MakeNoZero", "internal/bytealg.IndexByteString", "internal/bytealg.IndexString"], unfollowed := true, recurses := true, named := ["unicode/utf8.first", "unicode/utf8.acceptRanges", "internal/bytealg.MaxLen"], apart := false, laid := [("unicode/utf8.acceptRanges", laid_unicode_utf8_acceptRanges), ("unicode/utf8.first", laid_unicode_utf8_first)] }
def InternClassesSaid : Prop := internClassesRow.holds Tryd.pinned (OpenSpec.ofChange internClassesSpec)

/-- ITS FALSE NEIGHBOUR: 'it returns false'. Refute it at one input. -/
def internClassesWrong : ChangeSpec := { name := "internClasses", fn := fun _ => fun
  | [d1, d2, d3] => { results := [.lit (.bool false)], args := [d1, d2, d3] }
  | _ => none }
def InternClassesWrongFalsely : Prop := internClassesRow.holds Tryd.pinned (OpenSpec.ofChange internClassesWrong)

/-- 'redlinelaw04.InternGrows': WHATEVER THE INPUT: true; the input reads as it did. -/
def internGrowsSpec : ChangeSpec := { name := "internGrows", fn := fun _ => fun
  | [d1, d2, d3] => { results := [.lit (.bool true)], args := [d1, d2, d3] }
  | _ => none }
def internGrowsRow : OpenClaim := { program := "ytglffceopijogaadoor", sum := "f883a1e1b5325ac7c859ca6eaa4056025fa88227ec279411dda4600b6e1a3dec", func := "redline/redlinelaw04.InternGrows", spec := "internGrows", inPlace := ["internal/abi.NoEscape", "internal/bytealg.MakeNoZero", "internal/bytealg.IndexByteString", "internal/bytealg.IndexString"], unfollowed := true, recurses := true, named := ["unicode/utf8.first", "unicode/utf8.acceptRanges", "internal/bytealg.MaxLen"], apart := false, laid := [("unicode/utf8.acceptRanges", laid_unicode_utf8_acceptRanges), ("unicode/utf8.first", laid_unicode_utf8_first)] }
def InternGrowsSaid : Prop := internGrowsRow.holds Tryd.pinned (OpenSpec.ofChange internGrowsSpec)

/-- ITS FALSE NEIGHBOUR: 'it returns false'. Refute it at one input. -/
def internGrowsWrong : ChangeSpec := { name := "internGrows", fn := fun _ => fun
  | [d1, d2, d3] => { results := [.lit (.bool false)], args := [d1, d2, d3] }
  | _ => none }
def InternGrowsWrongFalsely : Prop := internGrowsRow.holds Tryd.pinned (OpenSpec.ofChange internGrowsWrong)

/-- 'redlinelaw04.InternParts': WHATEVER THE INPUT: true; the input reads as it did. -/
def internPartsSpec : ChangeSpec := { name := "internParts", fn := fun _ => fun
  | [d1, d2, d3] => { results := [.lit (.bool true)], args := [d1, d2, d3] }
  | _ => none }
def internPartsRow : OpenClaim := { program := "ytglffceopijogaadoor", sum := "f883a1e1b5325ac7c859ca6eaa4056025fa88227ec279411dda4600b6e1a3dec", func := "redline/redlinelaw04.InternParts", spec := "internParts", inPlace := ["internal/abi.NoEscape", "internal/bytealg.MakeNoZero", "internal/bytealg.IndexByteString", "internal/bytealg.IndexString"], unfollowed := true, recurses := true, named := ["unicode/utf8.first", "unicode/utf8.acceptRanges", "internal/bytealg.MaxLen"], apart := false, laid := [("unicode/utf8.acceptRanges", laid_unicode_utf8_acceptRanges), ("unicode/utf8.first", laid_unicode_utf8_first)] }
def InternPartsSaid : Prop := internPartsRow.holds Tryd.pinned (OpenSpec.ofChange internPartsSpec)

/-- ITS FALSE NEIGHBOUR: 'it returns false'. Refute it at one input. -/
def internPartsWrong : ChangeSpec := { name := "internParts", fn := fun _ => fun
  | [d1, d2, d3] => { results := [.lit (.bool false)], args := [d1, d2, d3] }
  | _ => none }
def InternPartsWrongFalsely : Prop := internPartsRow.holds Tryd.pinned (OpenSpec.ofChange internPartsWrong)

/- THE SECOND FORM. 'bulk': how many values and letters a reading holds, each counted each time it is reached (what is shared counts as often as it is met; a slice's spare places count too). A statement '..UptoSaid' is the law's where the arguments, and the package variables that the reading takes, are together of bulk at most 1048576: NARROWER than '..Said'. Prove '..Said' where nothing that the law and all that it calls make is longer than what came in: it says more and counts as full. Else prove '..UptoSaid'. A law counts once. -/
mutual
def uptoBulk {H : Type} : DataW H → Nat
  | .lit (.string bytes) => bytes.length + 1
  | .lit _ => 1
  | .nil => 1
  | .ptr d => uptoBulk d + 1
  | .slice elems spare => uptoBulkAll elems + uptoBulkAll spare + 1
  | .agg parts => uptoBulkAll parts + 1
  | .iface _ d => uptoBulk d + 1
  | .map entries => uptoBulkEntries entries + 1
  | .held _ => 1
def uptoBulkAll {H : Type} : List (DataW H) → Nat
  | [] => 0
  | d :: r => uptoBulk d + uptoBulkAll r
def uptoBulkEntries {H : Type} : List (Lit × DataW H) → Nat
  | [] => 0
  | x :: r => uptoBulkEntry x + uptoBulkEntries r
def uptoBulkEntry {H : Type} : Lit × DataW H → Nat
  | (.string bytes, d) => bytes.length + uptoBulk d + 1
  | (_, d) => uptoBulk d + 1
 end
def uptoSmall : (H : Type) → List (DataW H) → Bool := fun _ ds => decide (uptoBulkAll ds ≤ 1048576)
def OpenSpec.upto (s : _root_.Go.ChangeSpec) : _root_.Go.OpenSpec := { _root_.Go.OpenSpec.ofChange s with cond := some uptoSmall }

/-- 'redlinelaw03.CanonLines', WHERE WHAT IT READS IS OF BULK AT MOST 1048576: true; the input reads as it did. -/
def canonLinesUptoRow : OpenClaim := { program := "ytglffceopijogaadoor", sum := "f883a1e1b5325ac7c859ca6eaa4056025fa88227ec279411dda4600b6e1a3dec", func := "redline/redlinelaw03.CanonLines", spec := "canonLines", inPlace := ["internal/abi.NoEscape", "internal/bytealg.MakeNoZero", "internal/bytealg.IndexByteString", "internal/bytealg.IndexString"], unfollowed := true, recurses := true, named := ["unicode/utf8.first", "unicode/utf8.acceptRanges", "internal/bytealg.MaxLen"], apart := false, laid := [("unicode/utf8.acceptRanges", laid_unicode_utf8_acceptRanges), ("unicode/utf8.first", laid_unicode_utf8_first)], narrowed := true }
def CanonLinesUptoSaid : Prop := canonLinesUptoRow.holds Tryd.pinned (OpenSpec.upto canonLinesSpec)

/-- 'redlinelaw03.CanonTells', WHERE WHAT IT READS IS OF BULK AT MOST 1048576: true; the input reads as it did. -/
def canonTellsUptoRow : OpenClaim := { program := "ytglffceopijogaadoor", sum := "f883a1e1b5325ac7c859ca6eaa4056025fa88227ec279411dda4600b6e1a3dec", func := "redline/redlinelaw03.CanonTells", spec := "canonTells", inPlace := ["internal/abi.NoEscape", "internal/bytealg.MakeNoZero", "internal/bytealg.IndexByteString", "internal/bytealg.IndexString"], unfollowed := true, recurses := true, named := ["unicode/utf8.first", "unicode/utf8.acceptRanges", "internal/bytealg.MaxLen"], apart := false, laid := [("unicode/utf8.acceptRanges", laid_unicode_utf8_acceptRanges), ("unicode/utf8.first", laid_unicode_utf8_first)], narrowed := true }
def CanonTellsUptoSaid : Prop := canonTellsUptoRow.holds Tryd.pinned (OpenSpec.upto canonTellsSpec)

/-- 'redlinelaw03.CanonOrder', WHERE WHAT IT READS IS OF BULK AT MOST 1048576: true; the input reads as it did. -/
def canonOrderUptoRow : OpenClaim := { program := "ytglffceopijogaadoor", sum := "f883a1e1b5325ac7c859ca6eaa4056025fa88227ec279411dda4600b6e1a3dec", func := "redline/redlinelaw03.CanonOrder", spec := "canonOrder", inPlace := ["internal/abi.NoEscape", "internal/bytealg.MakeNoZero", "internal/bytealg.IndexByteString", "internal/bytealg.IndexString"], unfollowed := true, recurses := true, named := ["unicode/utf8.first", "unicode/utf8.acceptRanges", "internal/bytealg.MaxLen"], apart := false, laid := [("unicode/utf8.acceptRanges", laid_unicode_utf8_acceptRanges), ("unicode/utf8.first", laid_unicode_utf8_first)], narrowed := true }
def CanonOrderUptoSaid : Prop := canonOrderUptoRow.holds Tryd.pinned (OpenSpec.upto canonOrderSpec)

/-- 'redlinelaw04.InternTables', WHERE WHAT IT READS IS OF BULK AT MOST 1048576: true; the input reads as it did. -/
def internTablesUptoRow : OpenClaim := { program := "ytglffceopijogaadoor", sum := "f883a1e1b5325ac7c859ca6eaa4056025fa88227ec279411dda4600b6e1a3dec", func := "redline/redlinelaw04.InternTables", spec := "internTables", inPlace := ["internal/abi.NoEscape", "internal/bytealg.MakeNoZero", "internal/bytealg.IndexByteString", "internal/bytealg.IndexString"], unfollowed := true, recurses := true, named := ["unicode/utf8.first", "unicode/utf8.acceptRanges", "internal/bytealg.MaxLen"], apart := false, laid := [("unicode/utf8.acceptRanges", laid_unicode_utf8_acceptRanges), ("unicode/utf8.first", laid_unicode_utf8_first)], narrowed := true }
def InternTablesUptoSaid : Prop := internTablesUptoRow.holds Tryd.pinned (OpenSpec.upto internTablesSpec)

/-- 'redlinelaw04.InternClasses', WHERE WHAT IT READS IS OF BULK AT MOST 1048576: true; the input reads as it did. -/
def internClassesUptoRow : OpenClaim := { program := "ytglffceopijogaadoor", sum := "f883a1e1b5325ac7c859ca6eaa4056025fa88227ec279411dda4600b6e1a3dec", func := "redline/redlinelaw04.InternClasses", spec := "internClasses", inPlace := ["internal/abi.NoEscape", "internal/bytealg.MakeNoZero", "internal/bytealg.IndexByteString", "internal/bytealg.IndexString"], unfollowed := true, recurses := true, named := ["unicode/utf8.first", "unicode/utf8.acceptRanges", "internal/bytealg.MaxLen"], apart := false, laid := [("unicode/utf8.acceptRanges", laid_unicode_utf8_acceptRanges), ("unicode/utf8.first", laid_unicode_utf8_first)], narrowed := true }
def InternClassesUptoSaid : Prop := internClassesUptoRow.holds Tryd.pinned (OpenSpec.upto internClassesSpec)

/-- 'redlinelaw04.InternGrows', WHERE WHAT IT READS IS OF BULK AT MOST 1048576: true; the input reads as it did. -/
def internGrowsUptoRow : OpenClaim := { program := "ytglffceopijogaadoor", sum := "f883a1e1b5325ac7c859ca6eaa4056025fa88227ec279411dda4600b6e1a3dec", func := "redline/redlinelaw04.InternGrows", spec := "internGrows", inPlace := ["internal/abi.NoEscape", "internal/bytealg.MakeNoZero", "internal/bytealg.IndexByteString", "internal/bytealg.IndexString"], unfollowed := true, recurses := true, named := ["unicode/utf8.first", "unicode/utf8.acceptRanges", "internal/bytealg.MaxLen"], apart := false, laid := [("unicode/utf8.acceptRanges", laid_unicode_utf8_acceptRanges), ("unicode/utf8.first", laid_unicode_utf8_first)], narrowed := true }
def InternGrowsUptoSaid : Prop := internGrowsUptoRow.holds Tryd.pinned (OpenSpec.upto internGrowsSpec)

/-- 'redlinelaw04.InternParts', WHERE WHAT IT READS IS OF BULK AT MOST 1048576: true; the input reads as it did. -/
def internPartsUptoRow : OpenClaim := { program := "ytglffceopijogaadoor", sum := "f883a1e1b5325ac7c859ca6eaa4056025fa88227ec279411dda4600b6e1a3dec", func := "redline/redlinelaw04.InternParts", spec := "internParts", inPlace := ["internal/abi.NoEscape", "internal/bytealg.MakeNoZero", "internal/bytealg.IndexByteString", "internal/bytealg.IndexString"], unfollowed := true, recurses := true, named := ["unicode/utf8.first", "unicode/utf8.acceptRanges", "internal/bytealg.MaxLen"], apart := false, laid := [("unicode/utf8.acceptRanges", laid_unicode_utf8_acceptRanges), ("unicode/utf8.first", laid_unicode_utf8_first)], narrowed := true }
def InternPartsUptoSaid : Prop := internPartsUptoRow.holds Tryd.pinned (OpenSpec.upto internPartsSpec)

end Rows
end Go.Proofs.YtglffceopijogaaDoor
