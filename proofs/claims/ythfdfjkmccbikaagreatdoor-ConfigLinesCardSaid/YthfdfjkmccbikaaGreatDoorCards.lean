/-
  DERIVED. GIVEN WITH THE SEED: THE CARDS: each row of YthfdfjkmccbikaaGreatDoorRows.lean that lists a variable, with what it lists TIED to the program's text (the seventh form; the later family's looks); each row that meets fmt, with fmt's text TOLD by the authors' own Lean function (tested against real Go, not proved from fmt's source: count such statements apart). THE CARD IS WHAT COUNTS. Prove the row's statement (the work); the ties are given (YthfdfjkmccbikaaGreatDoorTie.lean); close each card by the builder's one call (the guide's Derived/Test/ToyasCard.lean, 'card_holds'). Laid BY PROGRAM, IN A SANDBOX (cutbox-door.mjs). By AI agents, Wed Nov 11 2026. No macro, syntax, notation, axiom, sorry.
-/
import Derived.Test.YthfdfjkmccbikaaGreatDoorRows
import GoSem.ClaimSeven
namespace Go.Proofs.YthfdfjkmccbikaaGreatDoor
namespace Rows

/-- THE TIED CARD OF 'pouchlaw16.ConfigLines'. -/
def configLinesCard : Claim7 := { stood := { row := configLinesRow, standIns := [], harness := (true, "77739ab582e506b17ab989a43468865f35bf65001246729c58930fd6cc1cd21e"), looks := true }, kinds := [], alts := [], laidByText := true, laidKinds := [.data, .data, .data, .data, .sentinel, .sentinel, .pinned], laidTests := true, laidLooks := .later }
def ConfigLinesCardSaid : Prop := Claim7.holds Tryz.pinned (.plain (OpenSpec.ofChange configLinesSpec)) configLinesCard

/-- THE TIED CARD OF 'pouchlaw16.ConfigEdges'. -/
def configEdgesCard : Claim7 := { stood := { row := configEdgesRow, standIns := [], harness := (true, "77739ab582e506b17ab989a43468865f35bf65001246729c58930fd6cc1cd21e"), looks := true }, kinds := [], alts := [], laidByText := true, laidKinds := [.data, .data, .data, .data, .sentinel, .sentinel, .pinned], laidTests := true, laidLooks := .later }
def ConfigEdgesCardSaid : Prop := Claim7.holds Tryz.pinned (.plain (OpenSpec.ofChange configEdgesSpec)) configEdgesCard

/-- THE SECOND FORM's CARD OF 'pouchlaw16.ConfigLines'. -/
def configLinesUptoCard : Claim7 := { stood := { row := configLinesUptoRow, standIns := [], harness := (true, "77739ab582e506b17ab989a43468865f35bf65001246729c58930fd6cc1cd21e"), looks := true }, kinds := [], alts := [], laidByText := true, laidKinds := [.data, .data, .data, .data, .sentinel, .sentinel, .pinned], laidTests := true, laidLooks := .later }
def ConfigLinesUptoCardSaid : Prop := Claim7.holds Tryz.pinned (.plain (OpenSpec.upto configLinesSpec)) configLinesUptoCard

/-- THE SECOND FORM's CARD OF 'pouchlaw16.ConfigEdges'. -/
def configEdgesUptoCard : Claim7 := { stood := { row := configEdgesUptoRow, standIns := [], harness := (true, "77739ab582e506b17ab989a43468865f35bf65001246729c58930fd6cc1cd21e"), looks := true }, kinds := [], alts := [], laidByText := true, laidKinds := [.data, .data, .data, .data, .sentinel, .sentinel, .pinned], laidTests := true, laidLooks := .later }
def ConfigEdgesUptoCardSaid : Prop := Claim7.holds Tryz.pinned (.plain (OpenSpec.upto configEdgesSpec)) configEdgesUptoCard
end Rows
end Go.Proofs.YthfdfjkmccbikaaGreatDoor
