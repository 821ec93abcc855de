/-
  No cell of these rows narrows 'for every input' (looked for: loops, veiled, ifaces, maps, wideKeys, modest, calm, conditions, laid).
  DERIVED. THE GIVEN ROWS OF THIS SEAT. 11 by the template 'for every input the law returns true; each argument reads behind the call as it read before'; 0 by the template 'total and deterministic' (their statements: YtnkglgcfemkibaaTotals.lean).
  GIVEN WITH THE SEED: the statements are not yours to turn. If you find one false, say at which input.
  Laid BY PROGRAM, IN A SANDBOX (cutbox-rows.mjs): the forced cells as the released guide's own fill.sh prints them over the translation 3a369ef911089441… (all of the seat's roots in one cut). By AI agents, Wed Nov 11 2026. No macro, syntax, notation, axiom, sorry.
-/
import Derived.Test.YtnkglgcfemkibaaChecked
import GoSem.Claim
import GoSem.ClaimJoined
import GoSem.ClaimMapViews
import Derived.JoinedTies
import Derived.KernelRfl
namespace Go.Proofs.Ytnkglgcfemkibaa
/- THE CELL 'sum', in the pinned program and in every row, IS THE sha256 OF THE DUMP (.gsa) THAT YtnkglgcfemkibaaProg.lean LOADS. Nothing in Lean hashes anything: it is a label: what it is worth is what the hold of that sum in a sandbox is worth. -/
noncomputable def Try.pinned : Pinned := { name := "ytnkglgcfemkibaa", sum := "3a369ef91108944152214f332beafbf0edf6bcba43c8de3dfd7308469d730ba1", checked := Try.checked }
namespace Rows
def none {H : Type} : Left H := { results := [], args := [] }

/-- 'pouchlaw13.DiskTears': WHATEVER THE INPUT: true; the input reads as it did. -/
def diskTearsSpec : ChangeSpec := { name := "diskTears", fn := fun _ => fun
  | [d] => { results := [.lit (.bool true)], args := [d] }
  | _ => none }
def diskTearsRow : OpenClaim := { program := "ytnkglgcfemkibaa", sum := "3a369ef91108944152214f332beafbf0edf6bcba43c8de3dfd7308469d730ba1", func := "pouch/pouchlaw13.DiskTears", spec := "diskTears", unfollowed := true, recurses := true, apart := false }
def DiskTearsSaid : Prop := diskTearsRow.holds Try.pinned (OpenSpec.ofChange diskTearsSpec)

/-- ITS FALSE NEIGHBOUR: 'it returns false'. Refute it at one input. -/
def diskTearsWrong : ChangeSpec := { name := "diskTears", fn := fun _ => fun
  | [d] => { results := [.lit (.bool false)], args := [d] }
  | _ => none }
def DiskTearsWrongFalsely : Prop := diskTearsRow.holds Try.pinned (OpenSpec.ofChange diskTearsWrong)

/-- 'pouchlaw13.DiskKept': WHATEVER THE INPUT: true; the input reads as it did. -/
def diskKeptSpec : ChangeSpec := { name := "diskKept", fn := fun _ => fun
  | [d] => { results := [.lit (.bool true)], args := [d] }
  | _ => none }
def diskKeptRow : OpenClaim := { program := "ytnkglgcfemkibaa", sum := "3a369ef91108944152214f332beafbf0edf6bcba43c8de3dfd7308469d730ba1", func := "pouch/pouchlaw13.DiskKept", spec := "diskKept", unfollowed := true, recurses := true, apart := false }
def DiskKeptSaid : Prop := diskKeptRow.holds Try.pinned (OpenSpec.ofChange diskKeptSpec)

/-- ITS FALSE NEIGHBOUR: 'it returns false'. Refute it at one input. -/
def diskKeptWrong : ChangeSpec := { name := "diskKept", fn := fun _ => fun
  | [d] => { results := [.lit (.bool false)], args := [d] }
  | _ => none }
def DiskKeptWrongFalsely : Prop := diskKeptRow.holds Try.pinned (OpenSpec.ofChange diskKeptWrong)

/-- 'pouchlaw13.DiskThree': WHATEVER THE INPUT: true; the input reads as it did. -/
def diskThreeSpec : ChangeSpec := { name := "diskThree", fn := fun _ => fun
  | [d] => { results := [.lit (.bool true)], args := [d] }
  | _ => none }
def diskThreeRow : OpenClaim := { program := "ytnkglgcfemkibaa", sum := "3a369ef91108944152214f332beafbf0edf6bcba43c8de3dfd7308469d730ba1", func := "pouch/pouchlaw13.DiskThree", spec := "diskThree", unfollowed := true, recurses := true, apart := false }
def DiskThreeSaid : Prop := diskThreeRow.holds Try.pinned (OpenSpec.ofChange diskThreeSpec)

/-- ITS FALSE NEIGHBOUR: 'it returns false'. Refute it at one input. -/
def diskThreeWrong : ChangeSpec := { name := "diskThree", fn := fun _ => fun
  | [d] => { results := [.lit (.bool false)], args := [d] }
  | _ => none }
def DiskThreeWrongFalsely : Prop := diskThreeRow.holds Try.pinned (OpenSpec.ofChange diskThreeWrong)

/-- 'pouchlaw13.DiskExact': WHATEVER THE INPUT: true; the input reads as it did. -/
def diskExactSpec : ChangeSpec := { name := "diskExact", fn := fun _ => fun
  | [d] => { results := [.lit (.bool true)], args := [d] }
  | _ => none }
def diskExactRow : OpenClaim := { program := "ytnkglgcfemkibaa", sum := "3a369ef91108944152214f332beafbf0edf6bcba43c8de3dfd7308469d730ba1", func := "pouch/pouchlaw13.DiskExact", spec := "diskExact", unfollowed := true, recurses := true, apart := false }
def DiskExactSaid : Prop := diskExactRow.holds Try.pinned (OpenSpec.ofChange diskExactSpec)

/-- ITS FALSE NEIGHBOUR: 'it returns false'. Refute it at one input. -/
def diskExactWrong : ChangeSpec := { name := "diskExact", fn := fun _ => fun
  | [d] => { results := [.lit (.bool false)], args := [d] }
  | _ => none }
def DiskExactWrongFalsely : Prop := diskExactRow.holds Try.pinned (OpenSpec.ofChange diskExactWrong)

/-- 'pouchlaw13.DiskOff': WHATEVER THE INPUT: true; the input reads as it did. -/
def diskOffSpec : ChangeSpec := { name := "diskOff", fn := fun _ => fun
  | [d] => { results := [.lit (.bool true)], args := [d] }
  | _ => none }
def diskOffRow : OpenClaim := { program := "ytnkglgcfemkibaa", sum := "3a369ef91108944152214f332beafbf0edf6bcba43c8de3dfd7308469d730ba1", func := "pouch/pouchlaw13.DiskOff", spec := "diskOff", unfollowed := true, recurses := true, apart := false }
def DiskOffSaid : Prop := diskOffRow.holds Try.pinned (OpenSpec.ofChange diskOffSpec)

/-- ITS FALSE NEIGHBOUR: 'it returns false'. Refute it at one input. -/
def diskOffWrong : ChangeSpec := { name := "diskOff", fn := fun _ => fun
  | [d] => { results := [.lit (.bool false)], args := [d] }
  | _ => none }
def DiskOffWrongFalsely : Prop := diskOffRow.holds Try.pinned (OpenSpec.ofChange diskOffWrong)

/-- 'pouchlaw9.GreyPasses': WHATEVER THE INPUT: true; the input reads as it did. -/
def greyPassesSpec : ChangeSpec := { name := "greyPasses", fn := fun _ => fun
  | [d] => { results := [.lit (.bool true)], args := [d] }
  | _ => none }
def greyPassesRow : OpenClaim := { program := "ytnkglgcfemkibaa", sum := "3a369ef91108944152214f332beafbf0edf6bcba43c8de3dfd7308469d730ba1", func := "pouch/pouchlaw9.GreyPasses", spec := "greyPasses", inPlace := ["internal/bytealg.abigen_runtime_cmpstring", "slices.overlaps[pouch/api.Grey]"], unfollowed := true, recurses := true, apart := false }
def GreyPassesSaid : Prop := greyPassesRow.holds Try.pinned (OpenSpec.ofChange greyPassesSpec)

/-- ITS FALSE NEIGHBOUR: 'it returns false'. Refute it at one input. -/
def greyPassesWrong : ChangeSpec := { name := "greyPasses", fn := fun _ => fun
  | [d] => { results := [.lit (.bool false)], args := [d] }
  | _ => none }
def GreyPassesWrongFalsely : Prop := greyPassesRow.holds Try.pinned (OpenSpec.ofChange greyPassesWrong)

/-- 'pouchlaw9.GreyRoom': WHATEVER THE INPUT: true; the input reads as it did. -/
def greyRoomSpec : ChangeSpec := { name := "greyRoom", fn := fun _ => fun
  | [d] => { results := [.lit (.bool true)], args := [d] }
  | _ => none }
def greyRoomRow : OpenClaim := { program := "ytnkglgcfemkibaa", sum := "3a369ef91108944152214f332beafbf0edf6bcba43c8de3dfd7308469d730ba1", func := "pouch/pouchlaw9.GreyRoom", spec := "greyRoom", inPlace := ["internal/bytealg.abigen_runtime_cmpstring", "slices.overlaps[pouch/api.Grey]"], unfollowed := true, recurses := true, apart := false }
def GreyRoomSaid : Prop := greyRoomRow.holds Try.pinned (OpenSpec.ofChange greyRoomSpec)

/-- ITS FALSE NEIGHBOUR: 'it returns false'. Refute it at one input. -/
def greyRoomWrong : ChangeSpec := { name := "greyRoom", fn := fun _ => fun
  | [d] => { results := [.lit (.bool false)], args := [d] }
  | _ => none }
def GreyRoomWrongFalsely : Prop := greyRoomRow.holds Try.pinned (OpenSpec.ofChange greyRoomWrong)

/-- 'pouchlaw9.GreyAsks': WHATEVER THE INPUT: true; the input reads as it did. -/
def greyAsksSpec : ChangeSpec := { name := "greyAsks", fn := fun _ => fun
  | [d] => { results := [.lit (.bool true)], args := [d] }
  | _ => none }
def greyAsksRow : OpenClaim := { program := "ytnkglgcfemkibaa", sum := "3a369ef91108944152214f332beafbf0edf6bcba43c8de3dfd7308469d730ba1", func := "pouch/pouchlaw9.GreyAsks", spec := "greyAsks", inPlace := ["internal/bytealg.abigen_runtime_cmpstring", "slices.overlaps[pouch/api.Grey]"], unfollowed := true, recurses := true, apart := false }
def GreyAsksSaid : Prop := greyAsksRow.holds Try.pinned (OpenSpec.ofChange greyAsksSpec)

/-- ITS FALSE NEIGHBOUR: 'it returns false'. Refute it at one input. -/
def greyAsksWrong : ChangeSpec := { name := "greyAsks", fn := fun _ => fun
  | [d] => { results := [.lit (.bool false)], args := [d] }
  | _ => none }
def GreyAsksWrongFalsely : Prop := greyAsksRow.holds Try.pinned (OpenSpec.ofChange greyAsksWrong)

/-- 'pouchlaw14.LogQuotas': WHATEVER THE INPUT: true; the input reads as it did. -/
def logQuotasSpec : ChangeSpec := { name := "logQuotas", fn := fun _ => fun
  | [d] => { results := [.lit (.bool true)], args := [d] }
  | _ => none }
def logQuotasRow : OpenClaim := { program := "ytnkglgcfemkibaa", sum := "3a369ef91108944152214f332beafbf0edf6bcba43c8de3dfd7308469d730ba1", func := "pouch/pouchlaw14.LogQuotas", spec := "logQuotas", apart := false }
def LogQuotasSaid : Prop := logQuotasRow.holds Try.pinned (OpenSpec.ofChange logQuotasSpec)

/-- ITS FALSE NEIGHBOUR: 'it returns false'. Refute it at one input. -/
def logQuotasWrong : ChangeSpec := { name := "logQuotas", fn := fun _ => fun
  | [d] => { results := [.lit (.bool false)], args := [d] }
  | _ => none }
def LogQuotasWrongFalsely : Prop := logQuotasRow.holds Try.pinned (OpenSpec.ofChange logQuotasWrong)

/-- 'pouchlaw14.LogModel': WHATEVER THE INPUT: true; the input reads as it did. -/
def logModelSpec : ChangeSpec := { name := "logModel", fn := fun _ => fun
  | [d] => { results := [.lit (.bool true)], args := [d] }
  | _ => none }
def logModelRow : OpenClaim := { program := "ytnkglgcfemkibaa", sum := "3a369ef91108944152214f332beafbf0edf6bcba43c8de3dfd7308469d730ba1", func := "pouch/pouchlaw14.LogModel", spec := "logModel", unfollowed := true, recurses := true, apart := false }
def LogModelSaid : Prop := logModelRow.holds Try.pinned (OpenSpec.ofChange logModelSpec)

/-- ITS FALSE NEIGHBOUR: 'it returns false'. Refute it at one input. -/
def logModelWrong : ChangeSpec := { name := "logModel", fn := fun _ => fun
  | [d] => { results := [.lit (.bool false)], args := [d] }
  | _ => none }
def LogModelWrongFalsely : Prop := logModelRow.holds Try.pinned (OpenSpec.ofChange logModelWrong)

/-- 'pouchlaw14.LogCrashes': WHATEVER THE INPUT: true; the input reads as it did. -/
def logCrashesSpec : ChangeSpec := { name := "logCrashes", fn := fun _ => fun
  | [d] => { results := [.lit (.bool true)], args := [d] }
  | _ => none }
def logCrashesRow : OpenClaim := { program := "ytnkglgcfemkibaa", sum := "3a369ef91108944152214f332beafbf0edf6bcba43c8de3dfd7308469d730ba1", func := "pouch/pouchlaw14.LogCrashes", spec := "logCrashes", unfollowed := true, recurses := true, apart := false }
def LogCrashesSaid : Prop := logCrashesRow.holds Try.pinned (OpenSpec.ofChange logCrashesSpec)

/-- ITS FALSE NEIGHBOUR: 'it returns false'. Refute it at one input. -/
def logCrashesWrong : ChangeSpec := { name := "logCrashes", fn := fun _ => fun
  | [d] => { results := [.lit (.bool false)], args := [d] }
  | _ => none }
def LogCrashesWrongFalsely : Prop := logCrashesRow.holds Try.pinned (OpenSpec.ofChange logCrashesWrong)

/- THE SECOND FORM. 'bulk': how many values and letters a reading holds, each counted each time it is reached (what is shared counts as often as it is met; a slice's spare places count too). A statement '..UptoSaid' is the law's where the arguments, and the package variables that the reading takes, are together of bulk at most 1048576: NARROWER than '..Said'. Prove '..Said' where nothing that the law and all that it calls make is longer than what came in: it says more and counts as full. Else prove '..UptoSaid'. A law counts once. -/
mutual
def uptoBulk {H : Type} : DataW H → Nat
  | .lit (.string bytes) => bytes.length + 1
  | .lit _ => 1
  | .nil => 1
  | .ptr d => uptoBulk d + 1
  | .slice elems spare => uptoBulkAll elems + uptoBulkAll spare + 1
  | .agg parts => uptoBulkAll parts + 1
  | .iface _ d => uptoBulk d + 1
  | .map entries => uptoBulkEntries entries + 1
  | .held _ => 1
def uptoBulkAll {H : Type} : List (DataW H) → Nat
  | [] => 0
  | d :: r => uptoBulk d + uptoBulkAll r
def uptoBulkEntries {H : Type} : List (Lit × DataW H) → Nat
  | [] => 0
  | x :: r => uptoBulkEntry x + uptoBulkEntries r
def uptoBulkEntry {H : Type} : Lit × DataW H → Nat
  | (.string bytes, d) => bytes.length + uptoBulk d + 1
  | (_, d) => uptoBulk d + 1
 end
def uptoSmall : (H : Type) → List (DataW H) → Bool := fun _ ds => decide (uptoBulkAll ds ≤ 1048576)
def OpenSpec.upto (s : _root_.Go.ChangeSpec) : _root_.Go.OpenSpec := { _root_.Go.OpenSpec.ofChange s with cond := some uptoSmall }

/-- 'pouchlaw13.DiskTears', WHERE WHAT IT READS IS OF BULK AT MOST 1048576: true; the input reads as it did. -/
def diskTearsUptoRow : OpenClaim := { program := "ytnkglgcfemkibaa", sum := "3a369ef91108944152214f332beafbf0edf6bcba43c8de3dfd7308469d730ba1", func := "pouch/pouchlaw13.DiskTears", spec := "diskTears", unfollowed := true, recurses := true, apart := false, narrowed := true }
def DiskTearsUptoSaid : Prop := diskTearsUptoRow.holds Try.pinned (OpenSpec.upto diskTearsSpec)

/-- 'pouchlaw13.DiskKept', WHERE WHAT IT READS IS OF BULK AT MOST 1048576: true; the input reads as it did. -/
def diskKeptUptoRow : OpenClaim := { program := "ytnkglgcfemkibaa", sum := "3a369ef91108944152214f332beafbf0edf6bcba43c8de3dfd7308469d730ba1", func := "pouch/pouchlaw13.DiskKept", spec := "diskKept", unfollowed := true, recurses := true, apart := false, narrowed := true }
def DiskKeptUptoSaid : Prop := diskKeptUptoRow.holds Try.pinned (OpenSpec.upto diskKeptSpec)

/-- 'pouchlaw13.DiskThree', WHERE WHAT IT READS IS OF BULK AT MOST 1048576: true; the input reads as it did. -/
def diskThreeUptoRow : OpenClaim := { program := "ytnkglgcfemkibaa", sum := "3a369ef91108944152214f332beafbf0edf6bcba43c8de3dfd7308469d730ba1", func := "pouch/pouchlaw13.DiskThree", spec := "diskThree", unfollowed := true, recurses := true, apart := false, narrowed := true }
def DiskThreeUptoSaid : Prop := diskThreeUptoRow.holds Try.pinned (OpenSpec.upto diskThreeSpec)

/-- 'pouchlaw13.DiskExact', WHERE WHAT IT READS IS OF BULK AT MOST 1048576: true; the input reads as it did. -/
def diskExactUptoRow : OpenClaim := { program := "ytnkglgcfemkibaa", sum := "3a369ef91108944152214f332beafbf0edf6bcba43c8de3dfd7308469d730ba1", func := "pouch/pouchlaw13.DiskExact", spec := "diskExact", unfollowed := true, recurses := true, apart := false, narrowed := true }
def DiskExactUptoSaid : Prop := diskExactUptoRow.holds Try.pinned (OpenSpec.upto diskExactSpec)

/-- 'pouchlaw13.DiskOff', WHERE WHAT IT READS IS OF BULK AT MOST 1048576: true; the input reads as it did. -/
def diskOffUptoRow : OpenClaim := { program := "ytnkglgcfemkibaa", sum := "3a369ef91108944152214f332beafbf0edf6bcba43c8de3dfd7308469d730ba1", func := "pouch/pouchlaw13.DiskOff", spec := "diskOff", unfollowed := true, recurses := true, apart := false, narrowed := true }
def DiskOffUptoSaid : Prop := diskOffUptoRow.holds Try.pinned (OpenSpec.upto diskOffSpec)

/-- 'pouchlaw9.GreyPasses', WHERE WHAT IT READS IS OF BULK AT MOST 1048576: true; the input reads as it did. -/
def greyPassesUptoRow : OpenClaim := { program := "ytnkglgcfemkibaa", sum := "3a369ef91108944152214f332beafbf0edf6bcba43c8de3dfd7308469d730ba1", func := "pouch/pouchlaw9.GreyPasses", spec := "greyPasses", inPlace := ["internal/bytealg.abigen_runtime_cmpstring", "slices.overlaps[pouch/api.Grey]"], unfollowed := true, recurses := true, apart := false, narrowed := true }
def GreyPassesUptoSaid : Prop := greyPassesUptoRow.holds Try.pinned (OpenSpec.upto greyPassesSpec)

/-- 'pouchlaw9.GreyRoom', WHERE WHAT IT READS IS OF BULK AT MOST 1048576: true; the input reads as it did. -/
def greyRoomUptoRow : OpenClaim := { program := "ytnkglgcfemkibaa", sum := "3a369ef91108944152214f332beafbf0edf6bcba43c8de3dfd7308469d730ba1", func := "pouch/pouchlaw9.GreyRoom", spec := "greyRoom", inPlace := ["internal/bytealg.abigen_runtime_cmpstring", "slices.overlaps[pouch/api.Grey]"], unfollowed := true, recurses := true, apart := false, narrowed := true }
def GreyRoomUptoSaid : Prop := greyRoomUptoRow.holds Try.pinned (OpenSpec.upto greyRoomSpec)

/-- 'pouchlaw9.GreyAsks', WHERE WHAT IT READS IS OF BULK AT MOST 1048576: true; the input reads as it did. -/
def greyAsksUptoRow : OpenClaim := { program := "ytnkglgcfemkibaa", sum := "3a369ef91108944152214f332beafbf0edf6bcba43c8de3dfd7308469d730ba1", func := "pouch/pouchlaw9.GreyAsks", spec := "greyAsks", inPlace := ["internal/bytealg.abigen_runtime_cmpstring", "slices.overlaps[pouch/api.Grey]"], unfollowed := true, recurses := true, apart := false, narrowed := true }
def GreyAsksUptoSaid : Prop := greyAsksUptoRow.holds Try.pinned (OpenSpec.upto greyAsksSpec)

/-- 'pouchlaw14.LogQuotas', WHERE WHAT IT READS IS OF BULK AT MOST 1048576: true; the input reads as it did. -/
def logQuotasUptoRow : OpenClaim := { program := "ytnkglgcfemkibaa", sum := "3a369ef91108944152214f332beafbf0edf6bcba43c8de3dfd7308469d730ba1", func := "pouch/pouchlaw14.LogQuotas", spec := "logQuotas", apart := false, narrowed := true }
def LogQuotasUptoSaid : Prop := logQuotasUptoRow.holds Try.pinned (OpenSpec.upto logQuotasSpec)

/-- 'pouchlaw14.LogModel', WHERE WHAT IT READS IS OF BULK AT MOST 1048576: true; the input reads as it did. -/
def logModelUptoRow : OpenClaim := { program := "ytnkglgcfemkibaa", sum := "3a369ef91108944152214f332beafbf0edf6bcba43c8de3dfd7308469d730ba1", func := "pouch/pouchlaw14.LogModel", spec := "logModel", unfollowed := true, recurses := true, apart := false, narrowed := true }
def LogModelUptoSaid : Prop := logModelUptoRow.holds Try.pinned (OpenSpec.upto logModelSpec)

/-- 'pouchlaw14.LogCrashes', WHERE WHAT IT READS IS OF BULK AT MOST 1048576: true; the input reads as it did. -/
def logCrashesUptoRow : OpenClaim := { program := "ytnkglgcfemkibaa", sum := "3a369ef91108944152214f332beafbf0edf6bcba43c8de3dfd7308469d730ba1", func := "pouch/pouchlaw14.LogCrashes", spec := "logCrashes", unfollowed := true, recurses := true, apart := false, narrowed := true }
def LogCrashesUptoSaid : Prop := logCrashesUptoRow.holds Try.pinned (OpenSpec.upto logCrashesSpec)

end Rows
end Go.Proofs.Ytnkglgcfemkibaa
