/-
  DERIVED. GIVEN WITH THE SEED: THE CARDS: each row of YtcmnaaopgffjdaaDoorRows.lean that lists a variable, with what it lists TIED to the program's text (the seventh form; the later family's looks); each row that meets fmt, with fmt's text TOLD by the authors' own Lean function (tested against real Go, not proved from fmt's source: count such statements apart). THE CARD IS WHAT COUNTS. Prove the row's statement (the work); the ties are given (YtcmnaaopgffjdaaDoorTie.lean); close each card by the builder's one call (the guide's Derived/Test/ToyasCard.lean, 'card_holds'). Laid BY PROGRAM, IN A SANDBOX (cutbox-door.mjs). By AI agents, Wed Nov 11 2026. No macro, syntax, notation, axiom, sorry.
-/
import Derived.Test.YtcmnaaopgffjdaaDoorRows
import GoSem.ClaimSeven
namespace Go.Proofs.YtcmnaaopgffjdaaDoor
namespace Rows

/-- THE TIED CARD OF 'pouchlaw9.GreyKeys'. -/
def greyKeysCard : Claim7 := { stood := { row := greyKeysRow, standIns := [], harness := (true, "9e0430e4c1f2a1ef1a40503ba9ffcf1a67b1d1937a6085b2963d72200bf471b4"), looks := true }, kinds := [], alts := [], laidByText := true, laidKinds := [.data, .data, .data], laidTests := true, laidLooks := .later }
def GreyKeysCardSaid : Prop := Claim7.holds Tryd.pinned (.plain (OpenSpec.ofChange greyKeysSpec)) greyKeysCard

/-- THE TIED CARD OF 'pouchlaw3.ReplyBytes'. -/
def replyBytesCard : Claim7 := { stood := { row := replyBytesRow, standIns := [], harness := (true, "9e0430e4c1f2a1ef1a40503ba9ffcf1a67b1d1937a6085b2963d72200bf471b4"), looks := true }, kinds := [], alts := [], laidByText := true, laidKinds := [.data, .data, .data], laidTests := true, laidLooks := .later }
def ReplyBytesCardSaid : Prop := Claim7.holds Tryd.pinned (.plain (OpenSpec.ofChange replyBytesSpec)) replyBytesCard

/-- THE TIED CARD OF 'pouchlaw3.ReplyBack'. -/
def replyBackCard : Claim7 := { stood := { row := replyBackRow, standIns := [], harness := (true, "9e0430e4c1f2a1ef1a40503ba9ffcf1a67b1d1937a6085b2963d72200bf471b4"), looks := true }, kinds := [], alts := [], laidByText := true, laidKinds := [.data, .data, .data], laidTests := true, laidLooks := .later }
def ReplyBackCardSaid : Prop := Claim7.holds Tryd.pinned (.plain (OpenSpec.ofChange replyBackSpec)) replyBackCard

/-- THE SECOND FORM's CARD OF 'pouchlaw9.GreyKeys'. -/
def greyKeysUptoCard : Claim7 := { stood := { row := greyKeysUptoRow, standIns := [], harness := (true, "9e0430e4c1f2a1ef1a40503ba9ffcf1a67b1d1937a6085b2963d72200bf471b4"), looks := true }, kinds := [], alts := [], laidByText := true, laidKinds := [.data, .data, .data], laidTests := true, laidLooks := .later }
def GreyKeysUptoCardSaid : Prop := Claim7.holds Tryd.pinned (.plain (OpenSpec.upto greyKeysSpec)) greyKeysUptoCard

/-- THE SECOND FORM's CARD OF 'pouchlaw3.ReplyBytes'. -/
def replyBytesUptoCard : Claim7 := { stood := { row := replyBytesUptoRow, standIns := [], harness := (true, "9e0430e4c1f2a1ef1a40503ba9ffcf1a67b1d1937a6085b2963d72200bf471b4"), looks := true }, kinds := [], alts := [], laidByText := true, laidKinds := [.data, .data, .data], laidTests := true, laidLooks := .later }
def ReplyBytesUptoCardSaid : Prop := Claim7.holds Tryd.pinned (.plain (OpenSpec.upto replyBytesSpec)) replyBytesUptoCard

/-- THE SECOND FORM's CARD OF 'pouchlaw3.ReplyBack'. -/
def replyBackUptoCard : Claim7 := { stood := { row := replyBackUptoRow, standIns := [], harness := (true, "9e0430e4c1f2a1ef1a40503ba9ffcf1a67b1d1937a6085b2963d72200bf471b4"), looks := true }, kinds := [], alts := [], laidByText := true, laidKinds := [.data, .data, .data], laidTests := true, laidLooks := .later }
def ReplyBackUptoCardSaid : Prop := Claim7.holds Tryd.pinned (.plain (OpenSpec.upto replyBackSpec)) replyBackUptoCard
end Rows
end Go.Proofs.YtcmnaaopgffjdaaDoor
