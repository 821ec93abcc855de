/-
  DERIVED. GIVEN WITH THE SEED: THE CARDS: each row of YtnaipikembnamaaDoorRows.lean that lists a variable, with what it lists TIED to the program's text (the seventh form; the later family's looks); each row that meets fmt, with fmt's text TOLD by the authors' own Lean function (tested against real Go, not proved from fmt's source: count such statements apart). THE CARD IS WHAT COUNTS. Prove the row's statement (the work); the ties are given (YtnaipikembnamaaDoorTie.lean); close each card by the builder's one call (the guide's Derived/Test/ToyasCard.lean, 'card_holds'). Laid BY PROGRAM, IN A SANDBOX (cutbox-door.mjs). By AI agents, Wed Nov 11 2026. No macro, syntax, notation, axiom, sorry.
-/
import Derived.Test.YtnaipikembnamaaDoorRows
import GoSem.ClaimSeven
namespace Go.Proofs.YtnaipikembnamaaDoor
namespace Rows

/-- THE TIED CARD OF 'pouchlaw6.RealEdges'. -/
def realEdgesCard : Claim7 := { stood := { row := realEdgesRow, standIns := [], harness := (true, "72be9c0992f5d5dd16763428cac73b5184436989b848f6ec5cf096590db1eeb0"), looks := true }, kinds := [], alts := [], laidByText := true, laidKinds := [.data, .data, .data, .sentinel, .sentinel], laidTests := true, laidLooks := .later }
def RealEdgesCardSaid : Prop := Claim7.holds Tryd.pinned (.plain (OpenSpec.ofChange realEdgesSpec)) realEdgesCard

/-- THE SECOND FORM's CARD OF 'pouchlaw6.RealEdges'. -/
def realEdgesUptoCard : Claim7 := { stood := { row := realEdgesUptoRow, standIns := [], harness := (true, "72be9c0992f5d5dd16763428cac73b5184436989b848f6ec5cf096590db1eeb0"), looks := true }, kinds := [], alts := [], laidByText := true, laidKinds := [.data, .data, .data, .sentinel, .sentinel], laidTests := true, laidLooks := .later }
def RealEdgesUptoCardSaid : Prop := Claim7.holds Tryd.pinned (.plain (OpenSpec.upto realEdgesSpec)) realEdgesUptoCard
end Rows
end Go.Proofs.YtnaipikembnamaaDoor
