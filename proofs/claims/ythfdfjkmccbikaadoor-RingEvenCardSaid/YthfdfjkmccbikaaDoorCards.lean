/-
  DERIVED. GIVEN WITH THE SEED: THE CARDS: each row of YthfdfjkmccbikaaDoorRows.lean that lists a variable, with what it lists TIED to the program's text (the seventh form; the later family's looks); each row that meets fmt, with fmt's text TOLD by the authors' own Lean function (tested against real Go, not proved from fmt's source: count such statements apart). THE CARD IS WHAT COUNTS. Prove the row's statement (the work); the ties are given (YthfdfjkmccbikaaDoorTie.lean); close each card by the builder's one call (the guide's Derived/Test/ToyasCard.lean, 'card_holds'). Laid BY PROGRAM, IN A SANDBOX (cutbox-door.mjs). By AI agents, Wed Nov 11 2026. No macro, syntax, notation, axiom, sorry.
-/
import Derived.Test.YthfdfjkmccbikaaDoorRows
import GoSem.ClaimSeven
namespace Go.Proofs.YthfdfjkmccbikaaDoor
namespace Rows

/-- THE TIED CARD OF 'pouchlaw19.RingEven'. -/
def ringEvenCard : Claim7 := { stood := { row := ringEvenRow, standIns := [], harness := (true, "0b3aee8e73faf4ed40ce7741b46ec37cc215c3babe37c2aaf09eb8746102e992"), looks := true }, kinds := [], alts := [], laidByText := true, laidKinds := [.data, .data, .data, .data, .sentinel, .sentinel, .pinned], laidTests := true, laidLooks := .later }
def RingEvenCardSaid : Prop := Claim7.holds Tryd.pinned (.plain (OpenSpec.ofChange ringEvenSpec)) ringEvenCard

/-- THE TIED CARD OF 'pouchlaw19.RingAlone'. -/
def ringAloneCard : Claim7 := { stood := { row := ringAloneRow, standIns := [], harness := (true, "0b3aee8e73faf4ed40ce7741b46ec37cc215c3babe37c2aaf09eb8746102e992"), looks := true }, kinds := [], alts := [], laidByText := true, laidKinds := [.data, .data, .data, .data, .sentinel, .sentinel, .pinned], laidTests := true, laidLooks := .later }
def RingAloneCardSaid : Prop := Claim7.holds Tryd.pinned (.plain (OpenSpec.ofChange ringAloneSpec)) ringAloneCard

/-- THE SECOND FORM's CARD OF 'pouchlaw19.RingEven'. -/
def ringEvenUptoCard : Claim7 := { stood := { row := ringEvenUptoRow, standIns := [], harness := (true, "0b3aee8e73faf4ed40ce7741b46ec37cc215c3babe37c2aaf09eb8746102e992"), looks := true }, kinds := [], alts := [], laidByText := true, laidKinds := [.data, .data, .data, .data, .sentinel, .sentinel, .pinned], laidTests := true, laidLooks := .later }
def RingEvenUptoCardSaid : Prop := Claim7.holds Tryd.pinned (.plain (OpenSpec.upto ringEvenSpec)) ringEvenUptoCard

/-- THE SECOND FORM's CARD OF 'pouchlaw19.RingAlone'. -/
def ringAloneUptoCard : Claim7 := { stood := { row := ringAloneUptoRow, standIns := [], harness := (true, "0b3aee8e73faf4ed40ce7741b46ec37cc215c3babe37c2aaf09eb8746102e992"), looks := true }, kinds := [], alts := [], laidByText := true, laidKinds := [.data, .data, .data, .data, .sentinel, .sentinel, .pinned], laidTests := true, laidLooks := .later }
def RingAloneUptoCardSaid : Prop := Claim7.holds Tryd.pinned (.plain (OpenSpec.upto ringAloneSpec)) ringAloneUptoCard
end Rows
end Go.Proofs.YthfdfjkmccbikaaDoor
