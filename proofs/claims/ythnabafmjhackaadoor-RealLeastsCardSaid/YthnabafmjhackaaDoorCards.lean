/-
  DERIVED. GIVEN WITH THE SEED: THE CARDS: each row of YthnabafmjhackaaDoorRows.lean that lists a variable, with what it lists TIED to the program's text (the seventh form; the later family's looks); each row that meets fmt, with fmt's text TOLD by the authors' own Lean function (tested against real Go, not proved from fmt's source: count such statements apart). THE CARD IS WHAT COUNTS. Prove the row's statement (the work); the ties are given (YthnabafmjhackaaDoorTie.lean); close each card by the builder's one call (the guide's Derived/Test/ToyasCard.lean, 'card_holds'). Laid BY PROGRAM, IN A SANDBOX (cutbox-door.mjs). By AI agents, Wed Nov 11 2026. No macro, syntax, notation, axiom, sorry.
-/
import Derived.Test.YthnabafmjhackaaDoorRows
import GoSem.ClaimSeven
namespace Go.Proofs.YthnabafmjhackaaDoor
namespace Rows

/-- THE TIED CARD OF 'pouchlaw6.RealClasses'. -/
def realClassesCard : Claim7 := { stood := { row := realClassesRow, standIns := [], harness := (true, "0738736570b221e1d510df8d1956ad73810597e715d7d129734b087de9a79f96"), looks := true }, kinds := [], alts := [], laidByText := true, laidKinds := [.data, .data, .data], laidTests := true, laidLooks := .later }
def RealClassesCardSaid : Prop := Claim7.holds Tryd.pinned (.plain (OpenSpec.ofChange realClassesSpec)) realClassesCard

/-- THE TIED CARD OF 'pouchlaw6.RealCmps'. -/
def realCmpsCard : Claim7 := { stood := { row := realCmpsRow, standIns := [], harness := (true, "0738736570b221e1d510df8d1956ad73810597e715d7d129734b087de9a79f96"), looks := true }, kinds := [], alts := [], laidByText := true, laidKinds := [.data, .data, .data], laidTests := true, laidLooks := .later }
def RealCmpsCardSaid : Prop := Claim7.holds Tryd.pinned (.plain (OpenSpec.ofChange realCmpsSpec)) realCmpsCard

/-- THE TIED CARD OF 'pouchlaw6.RealBits'. -/
def realBitsCard : Claim7 := { stood := { row := realBitsRow, standIns := [], harness := (true, "0738736570b221e1d510df8d1956ad73810597e715d7d129734b087de9a79f96"), looks := true }, kinds := [], alts := [], laidByText := true, laidKinds := [.data, .data, .data], laidTests := true, laidLooks := .later }
def RealBitsCardSaid : Prop := Claim7.holds Tryd.pinned (.plain (OpenSpec.ofChange realBitsSpec)) realBitsCard

/-- THE TIED CARD OF 'pouchlaw6.RealSteps'. -/
def realStepsCard : Claim7 := { stood := { row := realStepsRow, standIns := [], harness := (true, "0738736570b221e1d510df8d1956ad73810597e715d7d129734b087de9a79f96"), looks := true }, kinds := [], alts := [], laidByText := true, laidKinds := [.data, .data, .data], laidTests := true, laidLooks := .later }
def RealStepsCardSaid : Prop := Claim7.holds Tryd.pinned (.plain (OpenSpec.ofChange realStepsSpec)) realStepsCard

/-- THE TIED CARD OF 'pouchlaw6.RealLeasts'. -/
def realLeastsCard : Claim7 := { stood := { row := realLeastsRow, standIns := [], harness := (true, "0738736570b221e1d510df8d1956ad73810597e715d7d129734b087de9a79f96"), looks := true }, kinds := [], alts := [], laidByText := true, laidKinds := [.data, .data, .data], laidTests := true, laidLooks := .later }
def RealLeastsCardSaid : Prop := Claim7.holds Tryd.pinned (.plain (OpenSpec.ofChange realLeastsSpec)) realLeastsCard

/-- THE TIED CARD OF 'pouchlaw6.RealClamps'. -/
def realClampsCard : Claim7 := { stood := { row := realClampsRow, standIns := [], harness := (true, "0738736570b221e1d510df8d1956ad73810597e715d7d129734b087de9a79f96"), looks := true }, kinds := [], alts := [], laidByText := true, laidKinds := [.data, .data, .data], laidTests := true, laidLooks := .later }
def RealClampsCardSaid : Prop := Claim7.holds Tryd.pinned (.plain (OpenSpec.ofChange realClampsSpec)) realClampsCard

/-- THE TIED CARD OF 'pouchlaw6.RealOrder'. -/
def realOrderCard : Claim7 := { stood := { row := realOrderRow, standIns := [], harness := (true, "0738736570b221e1d510df8d1956ad73810597e715d7d129734b087de9a79f96"), looks := true }, kinds := [], alts := [], laidByText := true, laidKinds := [.data, .data, .data], laidTests := true, laidLooks := .later }
def RealOrderCardSaid : Prop := Claim7.holds Tryd.pinned (.plain (OpenSpec.ofChange realOrderSpec)) realOrderCard

/-- THE TIED CARD OF 'pouchlaw6.RealTexts'. -/
def realTextsCard : Claim7 := { stood := { row := realTextsRow, standIns := [], harness := (true, "0738736570b221e1d510df8d1956ad73810597e715d7d129734b087de9a79f96"), looks := true }, kinds := [], alts := [], laidByText := true, laidKinds := [.data, .data, .data, .sentinel, .sentinel], laidTests := true, laidLooks := .later }
def RealTextsCardSaid : Prop := Claim7.holds Tryd.pinned (.plain (OpenSpec.ofChange realTextsSpec)) realTextsCard

/-- THE TIED CARD OF 'pouchlaw6.RealParses'. -/
def realParsesCard : Claim7 := { stood := { row := realParsesRow, standIns := [], harness := (true, "0738736570b221e1d510df8d1956ad73810597e715d7d129734b087de9a79f96"), looks := true }, kinds := [], alts := [], laidByText := true, laidKinds := [.data, .data, .data, .sentinel, .sentinel], laidTests := true, laidLooks := .later }
def RealParsesCardSaid : Prop := Claim7.holds Tryd.pinned (.plain (OpenSpec.ofChange realParsesSpec)) realParsesCard

/-- THE TIED CARD OF 'pouchlaw6.RealEdges'. -/
def realEdgesCard : Claim7 := { stood := { row := realEdgesRow, standIns := [], harness := (true, "0738736570b221e1d510df8d1956ad73810597e715d7d129734b087de9a79f96"), looks := true }, kinds := [], alts := [], laidByText := true, laidKinds := [.data, .data, .data, .sentinel, .sentinel], laidTests := true, laidLooks := .later }
def RealEdgesCardSaid : Prop := Claim7.holds Tryd.pinned (.plain (OpenSpec.ofChange realEdgesSpec)) realEdgesCard

/-- THE SECOND FORM's CARD OF 'pouchlaw6.RealClasses'. -/
def realClassesUptoCard : Claim7 := { stood := { row := realClassesUptoRow, standIns := [], harness := (true, "0738736570b221e1d510df8d1956ad73810597e715d7d129734b087de9a79f96"), looks := true }, kinds := [], alts := [], laidByText := true, laidKinds := [.data, .data, .data], laidTests := true, laidLooks := .later }
def RealClassesUptoCardSaid : Prop := Claim7.holds Tryd.pinned (.plain (OpenSpec.upto realClassesSpec)) realClassesUptoCard

/-- THE SECOND FORM's CARD OF 'pouchlaw6.RealCmps'. -/
def realCmpsUptoCard : Claim7 := { stood := { row := realCmpsUptoRow, standIns := [], harness := (true, "0738736570b221e1d510df8d1956ad73810597e715d7d129734b087de9a79f96"), looks := true }, kinds := [], alts := [], laidByText := true, laidKinds := [.data, .data, .data], laidTests := true, laidLooks := .later }
def RealCmpsUptoCardSaid : Prop := Claim7.holds Tryd.pinned (.plain (OpenSpec.upto realCmpsSpec)) realCmpsUptoCard

/-- THE SECOND FORM's CARD OF 'pouchlaw6.RealBits'. -/
def realBitsUptoCard : Claim7 := { stood := { row := realBitsUptoRow, standIns := [], harness := (true, "0738736570b221e1d510df8d1956ad73810597e715d7d129734b087de9a79f96"), looks := true }, kinds := [], alts := [], laidByText := true, laidKinds := [.data, .data, .data], laidTests := true, laidLooks := .later }
def RealBitsUptoCardSaid : Prop := Claim7.holds Tryd.pinned (.plain (OpenSpec.upto realBitsSpec)) realBitsUptoCard

/-- THE SECOND FORM's CARD OF 'pouchlaw6.RealSteps'. -/
def realStepsUptoCard : Claim7 := { stood := { row := realStepsUptoRow, standIns := [], harness := (true, "0738736570b221e1d510df8d1956ad73810597e715d7d129734b087de9a79f96"), looks := true }, kinds := [], alts := [], laidByText := true, laidKinds := [.data, .data, .data], laidTests := true, laidLooks := .later }
def RealStepsUptoCardSaid : Prop := Claim7.holds Tryd.pinned (.plain (OpenSpec.upto realStepsSpec)) realStepsUptoCard

/-- THE SECOND FORM's CARD OF 'pouchlaw6.RealLeasts'. -/
def realLeastsUptoCard : Claim7 := { stood := { row := realLeastsUptoRow, standIns := [], harness := (true, "0738736570b221e1d510df8d1956ad73810597e715d7d129734b087de9a79f96"), looks := true }, kinds := [], alts := [], laidByText := true, laidKinds := [.data, .data, .data], laidTests := true, laidLooks := .later }
def RealLeastsUptoCardSaid : Prop := Claim7.holds Tryd.pinned (.plain (OpenSpec.upto realLeastsSpec)) realLeastsUptoCard

/-- THE SECOND FORM's CARD OF 'pouchlaw6.RealClamps'. -/
def realClampsUptoCard : Claim7 := { stood := { row := realClampsUptoRow, standIns := [], harness := (true, "0738736570b221e1d510df8d1956ad73810597e715d7d129734b087de9a79f96"), looks := true }, kinds := [], alts := [], laidByText := true, laidKinds := [.data, .data, .data], laidTests := true, laidLooks := .later }
def RealClampsUptoCardSaid : Prop := Claim7.holds Tryd.pinned (.plain (OpenSpec.upto realClampsSpec)) realClampsUptoCard

/-- THE SECOND FORM's CARD OF 'pouchlaw6.RealOrder'. -/
def realOrderUptoCard : Claim7 := { stood := { row := realOrderUptoRow, standIns := [], harness := (true, "0738736570b221e1d510df8d1956ad73810597e715d7d129734b087de9a79f96"), looks := true }, kinds := [], alts := [], laidByText := true, laidKinds := [.data, .data, .data], laidTests := true, laidLooks := .later }
def RealOrderUptoCardSaid : Prop := Claim7.holds Tryd.pinned (.plain (OpenSpec.upto realOrderSpec)) realOrderUptoCard

/-- THE SECOND FORM's CARD OF 'pouchlaw6.RealTexts'. -/
def realTextsUptoCard : Claim7 := { stood := { row := realTextsUptoRow, standIns := [], harness := (true, "0738736570b221e1d510df8d1956ad73810597e715d7d129734b087de9a79f96"), looks := true }, kinds := [], alts := [], laidByText := true, laidKinds := [.data, .data, .data, .sentinel, .sentinel], laidTests := true, laidLooks := .later }
def RealTextsUptoCardSaid : Prop := Claim7.holds Tryd.pinned (.plain (OpenSpec.upto realTextsSpec)) realTextsUptoCard

/-- THE SECOND FORM's CARD OF 'pouchlaw6.RealParses'. -/
def realParsesUptoCard : Claim7 := { stood := { row := realParsesUptoRow, standIns := [], harness := (true, "0738736570b221e1d510df8d1956ad73810597e715d7d129734b087de9a79f96"), looks := true }, kinds := [], alts := [], laidByText := true, laidKinds := [.data, .data, .data, .sentinel, .sentinel], laidTests := true, laidLooks := .later }
def RealParsesUptoCardSaid : Prop := Claim7.holds Tryd.pinned (.plain (OpenSpec.upto realParsesSpec)) realParsesUptoCard

/-- THE SECOND FORM's CARD OF 'pouchlaw6.RealEdges'. -/
def realEdgesUptoCard : Claim7 := { stood := { row := realEdgesUptoRow, standIns := [], harness := (true, "0738736570b221e1d510df8d1956ad73810597e715d7d129734b087de9a79f96"), looks := true }, kinds := [], alts := [], laidByText := true, laidKinds := [.data, .data, .data, .sentinel, .sentinel], laidTests := true, laidLooks := .later }
def RealEdgesUptoCardSaid : Prop := Claim7.holds Tryd.pinned (.plain (OpenSpec.upto realEdgesSpec)) realEdgesUptoCard
end Rows
end Go.Proofs.YthnabafmjhackaaDoor
