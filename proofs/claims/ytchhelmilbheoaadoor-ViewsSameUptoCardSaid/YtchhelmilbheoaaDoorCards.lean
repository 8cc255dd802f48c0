/-
  DERIVED. GIVEN WITH THE SEED: THE CARDS: each row of YtchhelmilbheoaaDoorRows.lean that lists a variable, with what it lists TIED to the program's text (the seventh form; the later family's looks); each row that meets fmt, with fmt's text TOLD by the authors' own Lean function (tested against real Go, not proved from fmt's source: count such statements apart). THE CARD IS WHAT COUNTS. Prove the row's statement (the work); the ties are given (YtchhelmilbheoaaDoorTie.lean); close each card by the builder's one call (the guide's Derived/Test/ToyasCard.lean, 'card_holds'). Laid BY PROGRAM, IN A SANDBOX (cutbox-door.mjs). By AI agents, Wed Nov 11 2026. No macro, syntax, notation, axiom, sorry.
-/
import Derived.Test.YtchhelmilbheoaaDoorRows
import GoSem.ClaimSeven
namespace Go.Proofs.YtchhelmilbheoaaDoor
namespace Rows

/-- THE TIED CARD OF 'redlinelaw17.ViewsResolve'. -/
def viewsResolveCard : Claim7 := { stood := { row := viewsResolveRow, standIns := [], harness := (true, "2ce0bc108900e6112eb12d7764474311b116077ba557d637cae0b9905016ccc1"), looks := true }, kinds := [], alts := [], laidByText := true, laidKinds := [.data, .handle, .pinned], laidTests := true, laidLooks := .later }
def ViewsResolveCardSaid : Prop := Claim7.holds Tryd.pinned (.plain (OpenSpec.ofChange viewsResolveSpec)) viewsResolveCard

/-- THE TIED CARD OF 'redlinelaw17.ViewsSide'. -/
def viewsSideCard : Claim7 := { stood := { row := viewsSideRow, standIns := [], harness := (true, "2ce0bc108900e6112eb12d7764474311b116077ba557d637cae0b9905016ccc1"), looks := true }, kinds := [], alts := [], laidByText := true, laidKinds := [.data, .pinned], laidTests := true, laidLooks := .later }
def ViewsSideCardSaid : Prop := Claim7.holds Tryd.pinned (.plain (OpenSpec.ofChange viewsSideSpec)) viewsSideCard

/-- THE TIED CARD OF 'redlinelaw21.SdiffAsks'. -/
def sdiffAsksCard : Claim7 := { stood := { row := sdiffAsksRow, standIns := [], harness := (true, "2ce0bc108900e6112eb12d7764474311b116077ba557d637cae0b9905016ccc1"), looks := true }, kinds := [], alts := [], laidByText := true, laidKinds := [.data, .pinned], laidTests := true, laidLooks := .later }
def SdiffAsksCardSaid : Prop := Claim7.holds Tryd.pinned (.plain (OpenSpec.ofChange sdiffAsksSpec)) sdiffAsksCard

/-- THE TIED CARD OF 'redlinelaw17.ViewsSame'. -/
def viewsSameCard : Claim7 := { stood := { row := viewsSameRow, standIns := [], harness := (true, "2ce0bc108900e6112eb12d7764474311b116077ba557d637cae0b9905016ccc1"), looks := true }, kinds := [], alts := [], laidByText := true, laidKinds := [.data, .pinned], laidTests := true, laidLooks := .later }
def ViewsSameCardSaid : Prop := Claim7.holds Tryd.pinned (.plain (OpenSpec.ofChange viewsSameSpec)) viewsSameCard

/-- THE SECOND FORM's CARD OF 'redlinelaw17.ViewsResolve'. -/
def viewsResolveUptoCard : Claim7 := { stood := { row := viewsResolveUptoRow, standIns := [], harness := (true, "2ce0bc108900e6112eb12d7764474311b116077ba557d637cae0b9905016ccc1"), looks := true }, kinds := [], alts := [], laidByText := true, laidKinds := [.data, .handle, .pinned], laidTests := true, laidLooks := .later }
def ViewsResolveUptoCardSaid : Prop := Claim7.holds Tryd.pinned (.plain (OpenSpec.upto viewsResolveSpec)) viewsResolveUptoCard

/-- THE SECOND FORM's CARD OF 'redlinelaw17.ViewsSide'. -/
def viewsSideUptoCard : Claim7 := { stood := { row := viewsSideUptoRow, standIns := [], harness := (true, "2ce0bc108900e6112eb12d7764474311b116077ba557d637cae0b9905016ccc1"), looks := true }, kinds := [], alts := [], laidByText := true, laidKinds := [.data, .pinned], laidTests := true, laidLooks := .later }
def ViewsSideUptoCardSaid : Prop := Claim7.holds Tryd.pinned (.plain (OpenSpec.upto viewsSideSpec)) viewsSideUptoCard

/-- THE SECOND FORM's CARD OF 'redlinelaw21.SdiffAsks'. -/
def sdiffAsksUptoCard : Claim7 := { stood := { row := sdiffAsksUptoRow, standIns := [], harness := (true, "2ce0bc108900e6112eb12d7764474311b116077ba557d637cae0b9905016ccc1"), looks := true }, kinds := [], alts := [], laidByText := true, laidKinds := [.data, .pinned], laidTests := true, laidLooks := .later }
def SdiffAsksUptoCardSaid : Prop := Claim7.holds Tryd.pinned (.plain (OpenSpec.upto sdiffAsksSpec)) sdiffAsksUptoCard

/-- THE SECOND FORM's CARD OF 'redlinelaw17.ViewsSame'. -/
def viewsSameUptoCard : Claim7 := { stood := { row := viewsSameUptoRow, standIns := [], harness := (true, "2ce0bc108900e6112eb12d7764474311b116077ba557d637cae0b9905016ccc1"), looks := true }, kinds := [], alts := [], laidByText := true, laidKinds := [.data, .pinned], laidTests := true, laidLooks := .later }
def ViewsSameUptoCardSaid : Prop := Claim7.holds Tryd.pinned (.plain (OpenSpec.upto viewsSameSpec)) viewsSameUptoCard
end Rows
end Go.Proofs.YtchhelmilbheoaaDoor
