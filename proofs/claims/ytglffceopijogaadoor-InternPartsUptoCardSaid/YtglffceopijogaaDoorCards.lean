/-
  DERIVED. GIVEN WITH THE SEED: THE CARDS: each row of YtglffceopijogaaDoorRows.lean that lists a variable, with what it lists TIED to the program's text (the seventh form; the later family's looks); each row that meets fmt, with fmt's text TOLD by the authors' own Lean function (tested against real Go, not proved from fmt's source: count such statements apart). THE CARD IS WHAT COUNTS. Prove the row's statement (the work); the ties are given (YtglffceopijogaaDoorTie.lean); close each card by the builder's one call (the guide's Derived/Test/ToyasCard.lean, 'card_holds'). Laid BY PROGRAM, IN A SANDBOX (cutbox-door.mjs). By AI agents, Wed Nov 11 2026. No macro, syntax, notation, axiom, sorry.
-/
import Derived.Test.YtglffceopijogaaDoorRows
import GoSem.ClaimSeven
namespace Go.Proofs.YtglffceopijogaaDoor
namespace Rows

/-- THE TIED CARD OF 'redlinelaw03.CanonLines'. -/
def canonLinesCard : Claim7 := { stood := { row := canonLinesRow, standIns := [], harness := (true, "e7cab697b69a9860911c7b7d3a004208f6e6ede23ea24a8f6c1ad03afe6dd85d"), looks := false }, kinds := [], alts := [], laidByText := true, laidKinds := [.data, .pinned], laidTests := true, laidLooks := .later }
def CanonLinesCardSaid : Prop := Claim7.holds Tryd.pinned (.plain (OpenSpec.ofChange canonLinesSpec)) canonLinesCard

/-- THE TIED CARD OF 'redlinelaw03.CanonTells'. -/
def canonTellsCard : Claim7 := { stood := { row := canonTellsRow, standIns := [], harness := (true, "e7cab697b69a9860911c7b7d3a004208f6e6ede23ea24a8f6c1ad03afe6dd85d"), looks := false }, kinds := [], alts := [], laidByText := true, laidKinds := [.data, .pinned], laidTests := true, laidLooks := .later }
def CanonTellsCardSaid : Prop := Claim7.holds Tryd.pinned (.plain (OpenSpec.ofChange canonTellsSpec)) canonTellsCard

/-- THE TIED CARD OF 'redlinelaw03.CanonOrder'. -/
def canonOrderCard : Claim7 := { stood := { row := canonOrderRow, standIns := [], harness := (true, "e7cab697b69a9860911c7b7d3a004208f6e6ede23ea24a8f6c1ad03afe6dd85d"), looks := false }, kinds := [], alts := [], laidByText := true, laidKinds := [.data, .pinned], laidTests := true, laidLooks := .later }
def CanonOrderCardSaid : Prop := Claim7.holds Tryd.pinned (.plain (OpenSpec.ofChange canonOrderSpec)) canonOrderCard

/-- THE TIED CARD OF 'redlinelaw04.InternTables'. -/
def internTablesCard : Claim7 := { stood := { row := internTablesRow, standIns := [], harness := (true, "e7cab697b69a9860911c7b7d3a004208f6e6ede23ea24a8f6c1ad03afe6dd85d"), looks := false }, kinds := [], alts := [], laidByText := true, laidKinds := [.data, .pinned], laidTests := true, laidLooks := .later }
def InternTablesCardSaid : Prop := Claim7.holds Tryd.pinned (.plain (OpenSpec.ofChange internTablesSpec)) internTablesCard

/-- THE TIED CARD OF 'redlinelaw04.InternClasses'. -/
def internClassesCard : Claim7 := { stood := { row := internClassesRow, standIns := [], harness := (true, "e7cab697b69a9860911c7b7d3a004208f6e6ede23ea24a8f6c1ad03afe6dd85d"), looks := false }, kinds := [], alts := [], laidByText := true, laidKinds := [.data, .pinned], laidTests := true, laidLooks := .later }
def InternClassesCardSaid : Prop := Claim7.holds Tryd.pinned (.plain (OpenSpec.ofChange internClassesSpec)) internClassesCard

/-- THE TIED CARD OF 'redlinelaw04.InternGrows'. -/
def internGrowsCard : Claim7 := { stood := { row := internGrowsRow, standIns := [], harness := (true, "e7cab697b69a9860911c7b7d3a004208f6e6ede23ea24a8f6c1ad03afe6dd85d"), looks := false }, kinds := [], alts := [], laidByText := true, laidKinds := [.data, .pinned], laidTests := true, laidLooks := .later }
def InternGrowsCardSaid : Prop := Claim7.holds Tryd.pinned (.plain (OpenSpec.ofChange internGrowsSpec)) internGrowsCard

/-- THE TIED CARD OF 'redlinelaw04.InternParts'. -/
def internPartsCard : Claim7 := { stood := { row := internPartsRow, standIns := [], harness := (true, "e7cab697b69a9860911c7b7d3a004208f6e6ede23ea24a8f6c1ad03afe6dd85d"), looks := false }, kinds := [], alts := [], laidByText := true, laidKinds := [.data, .pinned], laidTests := true, laidLooks := .later }
def InternPartsCardSaid : Prop := Claim7.holds Tryd.pinned (.plain (OpenSpec.ofChange internPartsSpec)) internPartsCard

/-- THE SECOND FORM's CARD OF 'redlinelaw03.CanonLines'. -/
def canonLinesUptoCard : Claim7 := { stood := { row := canonLinesUptoRow, standIns := [], harness := (true, "e7cab697b69a9860911c7b7d3a004208f6e6ede23ea24a8f6c1ad03afe6dd85d"), looks := false }, kinds := [], alts := [], laidByText := true, laidKinds := [.data, .pinned], laidTests := true, laidLooks := .later }
def CanonLinesUptoCardSaid : Prop := Claim7.holds Tryd.pinned (.plain (OpenSpec.upto canonLinesSpec)) canonLinesUptoCard

/-- THE SECOND FORM's CARD OF 'redlinelaw03.CanonTells'. -/
def canonTellsUptoCard : Claim7 := { stood := { row := canonTellsUptoRow, standIns := [], harness := (true, "e7cab697b69a9860911c7b7d3a004208f6e6ede23ea24a8f6c1ad03afe6dd85d"), looks := false }, kinds := [], alts := [], laidByText := true, laidKinds := [.data, .pinned], laidTests := true, laidLooks := .later }
def CanonTellsUptoCardSaid : Prop := Claim7.holds Tryd.pinned (.plain (OpenSpec.upto canonTellsSpec)) canonTellsUptoCard

/-- THE SECOND FORM's CARD OF 'redlinelaw03.CanonOrder'. -/
def canonOrderUptoCard : Claim7 := { stood := { row := canonOrderUptoRow, standIns := [], harness := (true, "e7cab697b69a9860911c7b7d3a004208f6e6ede23ea24a8f6c1ad03afe6dd85d"), looks := false }, kinds := [], alts := [], laidByText := true, laidKinds := [.data, .pinned], laidTests := true, laidLooks := .later }
def CanonOrderUptoCardSaid : Prop := Claim7.holds Tryd.pinned (.plain (OpenSpec.upto canonOrderSpec)) canonOrderUptoCard

/-- THE SECOND FORM's CARD OF 'redlinelaw04.InternTables'. -/
def internTablesUptoCard : Claim7 := { stood := { row := internTablesUptoRow, standIns := [], harness := (true, "e7cab697b69a9860911c7b7d3a004208f6e6ede23ea24a8f6c1ad03afe6dd85d"), looks := false }, kinds := [], alts := [], laidByText := true, laidKinds := [.data, .pinned], laidTests := true, laidLooks := .later }
def InternTablesUptoCardSaid : Prop := Claim7.holds Tryd.pinned (.plain (OpenSpec.upto internTablesSpec)) internTablesUptoCard

/-- THE SECOND FORM's CARD OF 'redlinelaw04.InternClasses'. -/
def internClassesUptoCard : Claim7 := { stood := { row := internClassesUptoRow, standIns := [], harness := (true, "e7cab697b69a9860911c7b7d3a004208f6e6ede23ea24a8f6c1ad03afe6dd85d"), looks := false }, kinds := [], alts := [], laidByText := true, laidKinds := [.data, .pinned], laidTests := true, laidLooks := .later }
def InternClassesUptoCardSaid : Prop := Claim7.holds Tryd.pinned (.plain (OpenSpec.upto internClassesSpec)) internClassesUptoCard

/-- THE SECOND FORM's CARD OF 'redlinelaw04.InternGrows'. -/
def internGrowsUptoCard : Claim7 := { stood := { row := internGrowsUptoRow, standIns := [], harness := (true, "e7cab697b69a9860911c7b7d3a004208f6e6ede23ea24a8f6c1ad03afe6dd85d"), looks := false }, kinds := [], alts := [], laidByText := true, laidKinds := [.data, .pinned], laidTests := true, laidLooks := .later }
def InternGrowsUptoCardSaid : Prop := Claim7.holds Tryd.pinned (.plain (OpenSpec.upto internGrowsSpec)) internGrowsUptoCard

/-- THE SECOND FORM's CARD OF 'redlinelaw04.InternParts'. -/
def internPartsUptoCard : Claim7 := { stood := { row := internPartsUptoRow, standIns := [], harness := (true, "e7cab697b69a9860911c7b7d3a004208f6e6ede23ea24a8f6c1ad03afe6dd85d"), looks := false }, kinds := [], alts := [], laidByText := true, laidKinds := [.data, .pinned], laidTests := true, laidLooks := .later }
def InternPartsUptoCardSaid : Prop := Claim7.holds Tryd.pinned (.plain (OpenSpec.upto internPartsSpec)) internPartsUptoCard
end Rows
end Go.Proofs.YtglffceopijogaaDoor
