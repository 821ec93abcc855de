/-
  No cell of these rows narrows 'for every input' (looked for: loops, veiled, ifaces, maps, wideKeys, modest, calm, conditions, laid).
  DERIVED. THE GIVEN ROWS OF THIS SEAT. 3 by the template 'for every input the law returns true; each argument reads behind the call as it read before'; 0 by the template 'total and deterministic' (their statements: YtcmnaaopgffjdaaTotals.lean).
  GIVEN WITH THE SEED: the statements are not yours to turn. If you find one false, say at which input.
  Laid BY PROGRAM, IN A SANDBOX (cutbox-rows.mjs): the forced cells as the released guide's own fill.sh prints them over the translation 19c93a66ada0105e… (all of the seat's roots in one cut). By AI agents, Wed Nov 11 2026. No macro, syntax, notation, axiom, sorry.
-/
import Derived.Test.YtcmnaaopgffjdaaChecked
import GoSem.Claim
import GoSem.ClaimJoined
import GoSem.ClaimMapViews
import Derived.JoinedTies
import Derived.KernelRfl
namespace Go.Proofs.Ytcmnaaopgffjdaa
/- THE CELL 'sum', in the pinned program and in every row, IS THE sha256 OF THE DUMP (.gsa) THAT YtcmnaaopgffjdaaProg.lean LOADS. Nothing in Lean hashes anything: it is a label: what it is worth is what the hold of that sum in a sandbox is worth. -/
noncomputable def Try.pinned : Pinned := { name := "ytcmnaaopgffjdaa", sum := "19c93a66ada0105e420b876b1409ff5be1fc009757ec76f991a58719176f8152", checked := Try.checked }
namespace Rows
def none {H : Type} : Left H := { results := [], args := [] }

/-- 'pouchlaw3.ReplyParses': WHATEVER THE INPUT: true; the input reads as it did. -/
def replyParsesSpec : ChangeSpec := { name := "replyParses", fn := fun _ => fun
  | [d] => { results := [.lit (.bool true)], args := [d] }
  | _ => none }
def replyParsesRow : OpenClaim := { program := "ytcmnaaopgffjdaa", sum := "19c93a66ada0105e420b876b1409ff5be1fc009757ec76f991a58719176f8152", func := "pouch/pouchlaw3.ReplyParses", spec := "replyParses", unfollowed := true, recurses := true, apart := false }
def ReplyParsesSaid : Prop := replyParsesRow.holds Try.pinned (OpenSpec.ofChange replyParsesSpec)

/-- ITS FALSE NEIGHBOUR: 'it returns false'. Refute it at one input. -/
def replyParsesWrong : ChangeSpec := { name := "replyParses", fn := fun _ => fun
  | [d] => { results := [.lit (.bool false)], args := [d] }
  | _ => none }
def ReplyParsesWrongFalsely : Prop := replyParsesRow.holds Try.pinned (OpenSpec.ofChange replyParsesWrong)

/-- 'pouchlaw9.GreyRoom': WHATEVER THE INPUT: true; the input reads as it did. -/
def greyRoomSpec : ChangeSpec := { name := "greyRoom", fn := fun _ => fun
  | [d] => { results := [.lit (.bool true)], args := [d] }
  | _ => none }
def greyRoomRow : OpenClaim := { program := "ytcmnaaopgffjdaa", sum := "19c93a66ada0105e420b876b1409ff5be1fc009757ec76f991a58719176f8152", func := "pouch/pouchlaw9.GreyRoom", spec := "greyRoom", inPlace := ["internal/bytealg.abigen_runtime_cmpstring", "slices.overlaps[pouch/api.Grey]"], unfollowed := true, recurses := true, apart := false }
def GreyRoomSaid : Prop := greyRoomRow.holds Try.pinned (OpenSpec.ofChange greyRoomSpec)

/-- ITS FALSE NEIGHBOUR: 'it returns false'. Refute it at one input. -/
def greyRoomWrong : ChangeSpec := { name := "greyRoom", fn := fun _ => fun
  | [d] => { results := [.lit (.bool false)], args := [d] }
  | _ => none }
def GreyRoomWrongFalsely : Prop := greyRoomRow.holds Try.pinned (OpenSpec.ofChange greyRoomWrong)

/-- 'pouchlaw9.GreyAsks': WHATEVER THE INPUT: true; the input reads as it did. -/
def greyAsksSpec : ChangeSpec := { name := "greyAsks", fn := fun _ => fun
  | [d] => { results := [.lit (.bool true)], args := [d] }
  | _ => none }
def greyAsksRow : OpenClaim := { program := "ytcmnaaopgffjdaa", sum := "19c93a66ada0105e420b876b1409ff5be1fc009757ec76f991a58719176f8152", func := "pouch/pouchlaw9.GreyAsks", spec := "greyAsks", inPlace := ["internal/bytealg.abigen_runtime_cmpstring", "slices.overlaps[pouch/api.Grey]"], unfollowed := true, recurses := true, apart := false }
def GreyAsksSaid : Prop := greyAsksRow.holds Try.pinned (OpenSpec.ofChange greyAsksSpec)

/-- ITS FALSE NEIGHBOUR: 'it returns false'. Refute it at one input. -/
def greyAsksWrong : ChangeSpec := { name := "greyAsks", fn := fun _ => fun
  | [d] => { results := [.lit (.bool false)], args := [d] }
  | _ => none }
def GreyAsksWrongFalsely : Prop := greyAsksRow.holds Try.pinned (OpenSpec.ofChange greyAsksWrong)

/- THE SECOND FORM. 'bulk': how many values and letters a reading holds, each counted each time it is reached (what is shared counts as often as it is met; a slice's spare places count too). A statement '..UptoSaid' is the law's where the arguments, and the package variables that the reading takes, are together of bulk at most 1048576: NARROWER than '..Said'. Prove '..Said' where nothing that the law and all that it calls make is longer than what came in: it says more and counts as full. Else prove '..UptoSaid'. A law counts once. -/
mutual
def uptoBulk {H : Type} : DataW H → Nat
  | .lit (.string bytes) => bytes.length + 1
  | .lit _ => 1
  | .nil => 1
  | .ptr d => uptoBulk d + 1
  | .slice elems spare => uptoBulkAll elems + uptoBulkAll spare + 1
  | .agg parts => uptoBulkAll parts + 1
  | .iface _ d => uptoBulk d + 1
  | .map entries => uptoBulkEntries entries + 1
  | .held _ => 1
def uptoBulkAll {H : Type} : List (DataW H) → Nat
  | [] => 0
  | d :: r => uptoBulk d + uptoBulkAll r
def uptoBulkEntries {H : Type} : List (Lit × DataW H) → Nat
  | [] => 0
  | x :: r => uptoBulkEntry x + uptoBulkEntries r
def uptoBulkEntry {H : Type} : Lit × DataW H → Nat
  | (.string bytes, d) => bytes.length + uptoBulk d + 1
  | (_, d) => uptoBulk d + 1
 end
def uptoSmall : (H : Type) → List (DataW H) → Bool := fun _ ds => decide (uptoBulkAll ds ≤ 1048576)
def OpenSpec.upto (s : _root_.Go.ChangeSpec) : _root_.Go.OpenSpec := { _root_.Go.OpenSpec.ofChange s with cond := some uptoSmall }

/-- 'pouchlaw3.ReplyParses', WHERE WHAT IT READS IS OF BULK AT MOST 1048576: true; the input reads as it did. -/
def replyParsesUptoRow : OpenClaim := { program := "ytcmnaaopgffjdaa", sum := "19c93a66ada0105e420b876b1409ff5be1fc009757ec76f991a58719176f8152", func := "pouch/pouchlaw3.ReplyParses", spec := "replyParses", unfollowed := true, recurses := true, apart := false, narrowed := true }
def ReplyParsesUptoSaid : Prop := replyParsesUptoRow.holds Try.pinned (OpenSpec.upto replyParsesSpec)

/-- 'pouchlaw9.GreyRoom', WHERE WHAT IT READS IS OF BULK AT MOST 1048576: true; the input reads as it did. -/
def greyRoomUptoRow : OpenClaim := { program := "ytcmnaaopgffjdaa", sum := "19c93a66ada0105e420b876b1409ff5be1fc009757ec76f991a58719176f8152", func := "pouch/pouchlaw9.GreyRoom", spec := "greyRoom", inPlace := ["internal/bytealg.abigen_runtime_cmpstring", "slices.overlaps[pouch/api.Grey]"], unfollowed := true, recurses := true, apart := false, narrowed := true }
def GreyRoomUptoSaid : Prop := greyRoomUptoRow.holds Try.pinned (OpenSpec.upto greyRoomSpec)

/-- 'pouchlaw9.GreyAsks', WHERE WHAT IT READS IS OF BULK AT MOST 1048576: true; the input reads as it did. -/
def greyAsksUptoRow : OpenClaim := { program := "ytcmnaaopgffjdaa", sum := "19c93a66ada0105e420b876b1409ff5be1fc009757ec76f991a58719176f8152", func := "pouch/pouchlaw9.GreyAsks", spec := "greyAsks", inPlace := ["internal/bytealg.abigen_runtime_cmpstring", "slices.overlaps[pouch/api.Grey]"], unfollowed := true, recurses := true, apart := false, narrowed := true }
def GreyAsksUptoSaid : Prop := greyAsksUptoRow.holds Try.pinned (OpenSpec.upto greyAsksSpec)

end Rows
end Go.Proofs.Ytcmnaaopgffjdaa
