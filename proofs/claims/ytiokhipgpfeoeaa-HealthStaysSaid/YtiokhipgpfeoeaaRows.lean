/-
  No cell of these rows narrows 'for every input' (looked for: loops, veiled, ifaces, maps, wideKeys, modest, calm, conditions, laid).
  DERIVED. THE GIVEN ROWS OF THIS SEAT. 12 by the template 'for every input the law returns true; each argument reads behind the call as it read before'; 0 by the template 'total and deterministic' (their statements: YtiokhipgpfeoeaaTotals.lean).
  GIVEN WITH THE SEED: the statements are not yours to turn. If you find one false, say at which input.
  Laid BY PROGRAM, IN A SANDBOX (cutbox-rows.mjs): the forced cells as the released guide's own fill.sh prints them over the translation d8f8af87f64f8317… (all of the seat's roots in one cut). By AI agents, Wed Nov 11 2026. No macro, syntax, notation, axiom, sorry.
-/
import Derived.Test.YtiokhipgpfeoeaaChecked
import GoSem.Claim
import GoSem.ClaimJoined
import GoSem.ClaimMapViews
import Derived.JoinedTies
import Derived.KernelRfl
namespace Go.Proofs.Ytiokhipgpfeoeaa
/- THE CELL 'sum', in the pinned program and in every row, IS THE sha256 OF THE DUMP (.gsa) THAT YtiokhipgpfeoeaaProg.lean LOADS. Nothing in Lean hashes anything: it is a label: what it is worth is what the hold of that sum in a sandbox is worth. -/
noncomputable def Try.pinned : Pinned := { name := "ytiokhipgpfeoeaa", sum := "d8f8af87f64f8317f6ef41a87efd1dc1c8245e36d807ff382287663e470f85db", checked := Try.checked }
namespace Rows
def none {H : Type} : Left H := { results := [], args := [] }

/-- 'pouchlaw7.HealthRises': WHATEVER THE INPUT: true; the input reads as it did. -/
def healthRisesSpec : ChangeSpec := { name := "healthRises", fn := fun _ => fun
  | [d] => { results := [.lit (.bool true)], args := [d] }
  | _ => none }
def healthRisesRow : OpenClaim := { program := "ytiokhipgpfeoeaa", sum := "d8f8af87f64f8317f6ef41a87efd1dc1c8245e36d807ff382287663e470f85db", func := "pouch/pouchlaw7.HealthRises", spec := "healthRises", inPlace := ["math.Float64frombits", "math.Float64bits"], apart := false }
def HealthRisesSaid : Prop := healthRisesRow.holds Try.pinned (OpenSpec.ofChange healthRisesSpec)

/-- ITS FALSE NEIGHBOUR: 'it returns false'. Refute it at one input. -/
def healthRisesWrong : ChangeSpec := { name := "healthRises", fn := fun _ => fun
  | [d] => { results := [.lit (.bool false)], args := [d] }
  | _ => none }
def HealthRisesWrongFalsely : Prop := healthRisesRow.holds Try.pinned (OpenSpec.ofChange healthRisesWrong)

/-- 'pouchlaw7.HealthNotes': WHATEVER THE INPUT: true; the input reads as it did. -/
def healthNotesSpec : ChangeSpec := { name := "healthNotes", fn := fun _ => fun
  | [d] => { results := [.lit (.bool true)], args := [d] }
  | _ => none }
def healthNotesRow : OpenClaim := { program := "ytiokhipgpfeoeaa", sum := "d8f8af87f64f8317f6ef41a87efd1dc1c8245e36d807ff382287663e470f85db", func := "pouch/pouchlaw7.HealthNotes", spec := "healthNotes", inPlace := ["math.Float64frombits", "math.Float64bits"], apart := false }
def HealthNotesSaid : Prop := healthNotesRow.holds Try.pinned (OpenSpec.ofChange healthNotesSpec)

/-- ITS FALSE NEIGHBOUR: 'it returns false'. Refute it at one input. -/
def healthNotesWrong : ChangeSpec := { name := "healthNotes", fn := fun _ => fun
  | [d] => { results := [.lit (.bool false)], args := [d] }
  | _ => none }
def HealthNotesWrongFalsely : Prop := healthNotesRow.holds Try.pinned (OpenSpec.ofChange healthNotesWrong)

/-- 'pouchlaw7.HealthStays': WHATEVER THE INPUT: true; the input reads as it did. -/
def healthStaysSpec : ChangeSpec := { name := "healthStays", fn := fun _ => fun
  | [d] => { results := [.lit (.bool true)], args := [d] }
  | _ => none }
def healthStaysRow : OpenClaim := { program := "ytiokhipgpfeoeaa", sum := "d8f8af87f64f8317f6ef41a87efd1dc1c8245e36d807ff382287663e470f85db", func := "pouch/pouchlaw7.HealthStays", spec := "healthStays", inPlace := ["math.Float64frombits", "math.Float64bits"], apart := false }
def HealthStaysSaid : Prop := healthStaysRow.holds Try.pinned (OpenSpec.ofChange healthStaysSpec)

/-- ITS FALSE NEIGHBOUR: 'it returns false'. Refute it at one input. -/
def healthStaysWrong : ChangeSpec := { name := "healthStays", fn := fun _ => fun
  | [d] => { results := [.lit (.bool false)], args := [d] }
  | _ => none }
def HealthStaysWrongFalsely : Prop := healthStaysRow.holds Try.pinned (OpenSpec.ofChange healthStaysWrong)

/-- 'pouchlaw7.HealthEdges': WHATEVER THE INPUT: true; the input reads as it did. -/
def healthEdgesSpec : ChangeSpec := { name := "healthEdges", fn := fun _ => fun
  | [d] => { results := [.lit (.bool true)], args := [d] }
  | _ => none }
def healthEdgesRow : OpenClaim := { program := "ytiokhipgpfeoeaa", sum := "d8f8af87f64f8317f6ef41a87efd1dc1c8245e36d807ff382287663e470f85db", func := "pouch/pouchlaw7.HealthEdges", spec := "healthEdges", inPlace := ["math.Float64frombits", "math.Float64bits"], apart := false }
def HealthEdgesSaid : Prop := healthEdgesRow.holds Try.pinned (OpenSpec.ofChange healthEdgesSpec)

/-- ITS FALSE NEIGHBOUR: 'it returns false'. Refute it at one input. -/
def healthEdgesWrong : ChangeSpec := { name := "healthEdges", fn := fun _ => fun
  | [d] => { results := [.lit (.bool false)], args := [d] }
  | _ => none }
def HealthEdgesWrongFalsely : Prop := healthEdgesRow.holds Try.pinned (OpenSpec.ofChange healthEdgesWrong)

/-- 'pouchlaw7.HealthGoods': WHATEVER THE INPUT: true; the input reads as it did. -/
def healthGoodsSpec : ChangeSpec := { name := "healthGoods", fn := fun _ => fun
  | [d] => { results := [.lit (.bool true)], args := [d] }
  | _ => none }
def healthGoodsRow : OpenClaim := { program := "ytiokhipgpfeoeaa", sum := "d8f8af87f64f8317f6ef41a87efd1dc1c8245e36d807ff382287663e470f85db", func := "pouch/pouchlaw7.HealthGoods", spec := "healthGoods", inPlace := ["math.Float64frombits", "math.Float64bits"], apart := false }
def HealthGoodsSaid : Prop := healthGoodsRow.holds Try.pinned (OpenSpec.ofChange healthGoodsSpec)

/-- ITS FALSE NEIGHBOUR: 'it returns false'. Refute it at one input. -/
def healthGoodsWrong : ChangeSpec := { name := "healthGoods", fn := fun _ => fun
  | [d] => { results := [.lit (.bool false)], args := [d] }
  | _ => none }
def HealthGoodsWrongFalsely : Prop := healthGoodsRow.holds Try.pinned (OpenSpec.ofChange healthGoodsWrong)

/-- 'pouchlaw10.BreakerTries': WHATEVER THE INPUT: true; the input reads as it did. -/
def breakerTriesSpec : ChangeSpec := { name := "breakerTries", fn := fun _ => fun
  | [d] => { results := [.lit (.bool true)], args := [d] }
  | _ => none }
def breakerTriesRow : OpenClaim := { program := "ytiokhipgpfeoeaa", sum := "d8f8af87f64f8317f6ef41a87efd1dc1c8245e36d807ff382287663e470f85db", func := "pouch/pouchlaw10.BreakerTries", spec := "breakerTries", inPlace := ["math.Float64frombits", "math.Float64bits"], apart := false }
def BreakerTriesSaid : Prop := breakerTriesRow.holds Try.pinned (OpenSpec.ofChange breakerTriesSpec)

/-- ITS FALSE NEIGHBOUR: 'it returns false'. Refute it at one input. -/
def breakerTriesWrong : ChangeSpec := { name := "breakerTries", fn := fun _ => fun
  | [d] => { results := [.lit (.bool false)], args := [d] }
  | _ => none }
def BreakerTriesWrongFalsely : Prop := breakerTriesRow.holds Try.pinned (OpenSpec.ofChange breakerTriesWrong)

/-- 'pouchlaw10.BreakerFloors': WHATEVER THE INPUT: true; the input reads as it did. -/
def breakerFloorsSpec : ChangeSpec := { name := "breakerFloors", fn := fun _ => fun
  | [d] => { results := [.lit (.bool true)], args := [d] }
  | _ => none }
def breakerFloorsRow : OpenClaim := { program := "ytiokhipgpfeoeaa", sum := "d8f8af87f64f8317f6ef41a87efd1dc1c8245e36d807ff382287663e470f85db", func := "pouch/pouchlaw10.BreakerFloors", spec := "breakerFloors", inPlace := ["math.Float64frombits", "math.Float64bits"], apart := false }
def BreakerFloorsSaid : Prop := breakerFloorsRow.holds Try.pinned (OpenSpec.ofChange breakerFloorsSpec)

/-- ITS FALSE NEIGHBOUR: 'it returns false'. Refute it at one input. -/
def breakerFloorsWrong : ChangeSpec := { name := "breakerFloors", fn := fun _ => fun
  | [d] => { results := [.lit (.bool false)], args := [d] }
  | _ => none }
def BreakerFloorsWrongFalsely : Prop := breakerFloorsRow.holds Try.pinned (OpenSpec.ofChange breakerFloorsWrong)

/-- 'pouchlaw10.BreakerMays': WHATEVER THE INPUT: true; the input reads as it did. -/
def breakerMaysSpec : ChangeSpec := { name := "breakerMays", fn := fun _ => fun
  | [d] => { results := [.lit (.bool true)], args := [d] }
  | _ => none }
def breakerMaysRow : OpenClaim := { program := "ytiokhipgpfeoeaa", sum := "d8f8af87f64f8317f6ef41a87efd1dc1c8245e36d807ff382287663e470f85db", func := "pouch/pouchlaw10.BreakerMays", spec := "breakerMays", inPlace := ["math.Float64frombits", "math.Float64bits"], apart := false }
def BreakerMaysSaid : Prop := breakerMaysRow.holds Try.pinned (OpenSpec.ofChange breakerMaysSpec)

/-- ITS FALSE NEIGHBOUR: 'it returns false'. Refute it at one input. -/
def breakerMaysWrong : ChangeSpec := { name := "breakerMays", fn := fun _ => fun
  | [d] => { results := [.lit (.bool false)], args := [d] }
  | _ => none }
def BreakerMaysWrongFalsely : Prop := breakerMaysRow.holds Try.pinned (OpenSpec.ofChange breakerMaysWrong)

/-- 'pouchlaw10.BreakerBegins': WHATEVER THE INPUT: true; the input reads as it did. -/
def breakerBeginsSpec : ChangeSpec := { name := "breakerBegins", fn := fun _ => fun
  | [d] => { results := [.lit (.bool true)], args := [d] }
  | _ => none }
def breakerBeginsRow : OpenClaim := { program := "ytiokhipgpfeoeaa", sum := "d8f8af87f64f8317f6ef41a87efd1dc1c8245e36d807ff382287663e470f85db", func := "pouch/pouchlaw10.BreakerBegins", spec := "breakerBegins", inPlace := ["math.Float64frombits", "math.Float64bits"], apart := false }
def BreakerBeginsSaid : Prop := breakerBeginsRow.holds Try.pinned (OpenSpec.ofChange breakerBeginsSpec)

/-- ITS FALSE NEIGHBOUR: 'it returns false'. Refute it at one input. -/
def breakerBeginsWrong : ChangeSpec := { name := "breakerBegins", fn := fun _ => fun
  | [d] => { results := [.lit (.bool false)], args := [d] }
  | _ => none }
def BreakerBeginsWrongFalsely : Prop := breakerBeginsRow.holds Try.pinned (OpenSpec.ofChange breakerBeginsWrong)

/-- 'pouchlaw10.BreakerEnds': WHATEVER THE INPUT: true; the input reads as it did. -/
def breakerEndsSpec : ChangeSpec := { name := "breakerEnds", fn := fun _ => fun
  | [d] => { results := [.lit (.bool true)], args := [d] }
  | _ => none }
def breakerEndsRow : OpenClaim := { program := "ytiokhipgpfeoeaa", sum := "d8f8af87f64f8317f6ef41a87efd1dc1c8245e36d807ff382287663e470f85db", func := "pouch/pouchlaw10.BreakerEnds", spec := "breakerEnds", inPlace := ["math.Float64frombits", "math.Float64bits"], apart := false }
def BreakerEndsSaid : Prop := breakerEndsRow.holds Try.pinned (OpenSpec.ofChange breakerEndsSpec)

/-- ITS FALSE NEIGHBOUR: 'it returns false'. Refute it at one input. -/
def breakerEndsWrong : ChangeSpec := { name := "breakerEnds", fn := fun _ => fun
  | [d] => { results := [.lit (.bool false)], args := [d] }
  | _ => none }
def BreakerEndsWrongFalsely : Prop := breakerEndsRow.holds Try.pinned (OpenSpec.ofChange breakerEndsWrong)

/-- 'pouchlaw10.BreakerOpens': WHATEVER THE INPUT: true; the input reads as it did. -/
def breakerOpensSpec : ChangeSpec := { name := "breakerOpens", fn := fun _ => fun
  | [d] => { results := [.lit (.bool true)], args := [d] }
  | _ => none }
def breakerOpensRow : OpenClaim := { program := "ytiokhipgpfeoeaa", sum := "d8f8af87f64f8317f6ef41a87efd1dc1c8245e36d807ff382287663e470f85db", func := "pouch/pouchlaw10.BreakerOpens", spec := "breakerOpens", inPlace := ["math.Float64frombits", "math.Float64bits"], apart := false }
def BreakerOpensSaid : Prop := breakerOpensRow.holds Try.pinned (OpenSpec.ofChange breakerOpensSpec)

/-- ITS FALSE NEIGHBOUR: 'it returns false'. Refute it at one input. -/
def breakerOpensWrong : ChangeSpec := { name := "breakerOpens", fn := fun _ => fun
  | [d] => { results := [.lit (.bool false)], args := [d] }
  | _ => none }
def BreakerOpensWrongFalsely : Prop := breakerOpensRow.holds Try.pinned (OpenSpec.ofChange breakerOpensWrong)

/-- 'pouchlaw10.BreakerExact': WHATEVER THE INPUT: true; the input reads as it did. -/
def breakerExactSpec : ChangeSpec := { name := "breakerExact", fn := fun _ => fun
  | [d] => { results := [.lit (.bool true)], args := [d] }
  | _ => none }
def breakerExactRow : OpenClaim := { program := "ytiokhipgpfeoeaa", sum := "d8f8af87f64f8317f6ef41a87efd1dc1c8245e36d807ff382287663e470f85db", func := "pouch/pouchlaw10.BreakerExact", spec := "breakerExact", inPlace := ["math.Float64frombits", "math.Float64bits"], apart := false }
def BreakerExactSaid : Prop := breakerExactRow.holds Try.pinned (OpenSpec.ofChange breakerExactSpec)

/-- ITS FALSE NEIGHBOUR: 'it returns false'. Refute it at one input. -/
def breakerExactWrong : ChangeSpec := { name := "breakerExact", fn := fun _ => fun
  | [d] => { results := [.lit (.bool false)], args := [d] }
  | _ => none }
def BreakerExactWrongFalsely : Prop := breakerExactRow.holds Try.pinned (OpenSpec.ofChange breakerExactWrong)

/- THE SECOND FORM. 'bulk': how many values and letters a reading holds, each counted each time it is reached (what is shared counts as often as it is met; a slice's spare places count too). A statement '..UptoSaid' is the law's where the arguments, and the package variables that the reading takes, are together of bulk at most 1048576: NARROWER than '..Said'. Prove '..Said' where nothing that the law and all that it calls make is longer than what came in: it says more and counts as full. Else prove '..UptoSaid'. A law counts once. -/
mutual
def uptoBulk {H : Type} : DataW H → Nat
  | .lit (.string bytes) => bytes.length + 1
  | .lit _ => 1
  | .nil => 1
  | .ptr d => uptoBulk d + 1
  | .slice elems spare => uptoBulkAll elems + uptoBulkAll spare + 1
  | .agg parts => uptoBulkAll parts + 1
  | .iface _ d => uptoBulk d + 1
  | .map entries => uptoBulkEntries entries + 1
  | .held _ => 1
def uptoBulkAll {H : Type} : List (DataW H) → Nat
  | [] => 0
  | d :: r => uptoBulk d + uptoBulkAll r
def uptoBulkEntries {H : Type} : List (Lit × DataW H) → Nat
  | [] => 0
  | x :: r => uptoBulkEntry x + uptoBulkEntries r
def uptoBulkEntry {H : Type} : Lit × DataW H → Nat
  | (.string bytes, d) => bytes.length + uptoBulk d + 1
  | (_, d) => uptoBulk d + 1
 end
def uptoSmall : (H : Type) → List (DataW H) → Bool := fun _ ds => decide (uptoBulkAll ds ≤ 1048576)
def OpenSpec.upto (s : _root_.Go.ChangeSpec) : _root_.Go.OpenSpec := { _root_.Go.OpenSpec.ofChange s with cond := some uptoSmall }

/-- 'pouchlaw7.HealthRises', WHERE WHAT IT READS IS OF BULK AT MOST 1048576: true; the input reads as it did. -/
def healthRisesUptoRow : OpenClaim := { program := "ytiokhipgpfeoeaa", sum := "d8f8af87f64f8317f6ef41a87efd1dc1c8245e36d807ff382287663e470f85db", func := "pouch/pouchlaw7.HealthRises", spec := "healthRises", inPlace := ["math.Float64frombits", "math.Float64bits"], apart := false, narrowed := true }
def HealthRisesUptoSaid : Prop := healthRisesUptoRow.holds Try.pinned (OpenSpec.upto healthRisesSpec)

/-- 'pouchlaw7.HealthNotes', WHERE WHAT IT READS IS OF BULK AT MOST 1048576: true; the input reads as it did. -/
def healthNotesUptoRow : OpenClaim := { program := "ytiokhipgpfeoeaa", sum := "d8f8af87f64f8317f6ef41a87efd1dc1c8245e36d807ff382287663e470f85db", func := "pouch/pouchlaw7.HealthNotes", spec := "healthNotes", inPlace := ["math.Float64frombits", "math.Float64bits"], apart := false, narrowed := true }
def HealthNotesUptoSaid : Prop := healthNotesUptoRow.holds Try.pinned (OpenSpec.upto healthNotesSpec)

/-- 'pouchlaw7.HealthStays', WHERE WHAT IT READS IS OF BULK AT MOST 1048576: true; the input reads as it did. -/
def healthStaysUptoRow : OpenClaim := { program := "ytiokhipgpfeoeaa", sum := "d8f8af87f64f8317f6ef41a87efd1dc1c8245e36d807ff382287663e470f85db", func := "pouch/pouchlaw7.HealthStays", spec := "healthStays", inPlace := ["math.Float64frombits", "math.Float64bits"], apart := false, narrowed := true }
def HealthStaysUptoSaid : Prop := healthStaysUptoRow.holds Try.pinned (OpenSpec.upto healthStaysSpec)

/-- 'pouchlaw7.HealthEdges', WHERE WHAT IT READS IS OF BULK AT MOST 1048576: true; the input reads as it did. -/
def healthEdgesUptoRow : OpenClaim := { program := "ytiokhipgpfeoeaa", sum := "d8f8af87f64f8317f6ef41a87efd1dc1c8245e36d807ff382287663e470f85db", func := "pouch/pouchlaw7.HealthEdges", spec := "healthEdges", inPlace := ["math.Float64frombits", "math.Float64bits"], apart := false, narrowed := true }
def HealthEdgesUptoSaid : Prop := healthEdgesUptoRow.holds Try.pinned (OpenSpec.upto healthEdgesSpec)

/-- 'pouchlaw7.HealthGoods', WHERE WHAT IT READS IS OF BULK AT MOST 1048576: true; the input reads as it did. -/
def healthGoodsUptoRow : OpenClaim := { program := "ytiokhipgpfeoeaa", sum := "d8f8af87f64f8317f6ef41a87efd1dc1c8245e36d807ff382287663e470f85db", func := "pouch/pouchlaw7.HealthGoods", spec := "healthGoods", inPlace := ["math.Float64frombits", "math.Float64bits"], apart := false, narrowed := true }
def HealthGoodsUptoSaid : Prop := healthGoodsUptoRow.holds Try.pinned (OpenSpec.upto healthGoodsSpec)

/-- 'pouchlaw10.BreakerTries', WHERE WHAT IT READS IS OF BULK AT MOST 1048576: true; the input reads as it did. -/
def breakerTriesUptoRow : OpenClaim := { program := "ytiokhipgpfeoeaa", sum := "d8f8af87f64f8317f6ef41a87efd1dc1c8245e36d807ff382287663e470f85db", func := "pouch/pouchlaw10.BreakerTries", spec := "breakerTries", inPlace := ["math.Float64frombits", "math.Float64bits"], apart := false, narrowed := true }
def BreakerTriesUptoSaid : Prop := breakerTriesUptoRow.holds Try.pinned (OpenSpec.upto breakerTriesSpec)

/-- 'pouchlaw10.BreakerFloors', WHERE WHAT IT READS IS OF BULK AT MOST 1048576: true; the input reads as it did. -/
def breakerFloorsUptoRow : OpenClaim := { program := "ytiokhipgpfeoeaa", sum := "d8f8af87f64f8317f6ef41a87efd1dc1c8245e36d807ff382287663e470f85db", func := "pouch/pouchlaw10.BreakerFloors", spec := "breakerFloors", inPlace := ["math.Float64frombits", "math.Float64bits"], apart := false, narrowed := true }
def BreakerFloorsUptoSaid : Prop := breakerFloorsUptoRow.holds Try.pinned (OpenSpec.upto breakerFloorsSpec)

/-- 'pouchlaw10.BreakerMays', WHERE WHAT IT READS IS OF BULK AT MOST 1048576: true; the input reads as it did. -/
def breakerMaysUptoRow : OpenClaim := { program := "ytiokhipgpfeoeaa", sum := "d8f8af87f64f8317f6ef41a87efd1dc1c8245e36d807ff382287663e470f85db", func := "pouch/pouchlaw10.BreakerMays", spec := "breakerMays", inPlace := ["math.Float64frombits", "math.Float64bits"], apart := false, narrowed := true }
def BreakerMaysUptoSaid : Prop := breakerMaysUptoRow.holds Try.pinned (OpenSpec.upto breakerMaysSpec)

/-- 'pouchlaw10.BreakerBegins', WHERE WHAT IT READS IS OF BULK AT MOST 1048576: true; the input reads as it did. -/
def breakerBeginsUptoRow : OpenClaim := { program := "ytiokhipgpfeoeaa", sum := "d8f8af87f64f8317f6ef41a87efd1dc1c8245e36d807ff382287663e470f85db", func := "pouch/pouchlaw10.BreakerBegins", spec := "breakerBegins", inPlace := ["math.Float64frombits", "math.Float64bits"], apart := false, narrowed := true }
def BreakerBeginsUptoSaid : Prop := breakerBeginsUptoRow.holds Try.pinned (OpenSpec.upto breakerBeginsSpec)

/-- 'pouchlaw10.BreakerEnds', WHERE WHAT IT READS IS OF BULK AT MOST 1048576: true; the input reads as it did. -/
def breakerEndsUptoRow : OpenClaim := { program := "ytiokhipgpfeoeaa", sum := "d8f8af87f64f8317f6ef41a87efd1dc1c8245e36d807ff382287663e470f85db", func := "pouch/pouchlaw10.BreakerEnds", spec := "breakerEnds", inPlace := ["math.Float64frombits", "math.Float64bits"], apart := false, narrowed := true }
def BreakerEndsUptoSaid : Prop := breakerEndsUptoRow.holds Try.pinned (OpenSpec.upto breakerEndsSpec)

/-- 'pouchlaw10.BreakerOpens', WHERE WHAT IT READS IS OF BULK AT MOST 1048576: true; the input reads as it did. -/
def breakerOpensUptoRow : OpenClaim := { program := "ytiokhipgpfeoeaa", sum := "d8f8af87f64f8317f6ef41a87efd1dc1c8245e36d807ff382287663e470f85db", func := "pouch/pouchlaw10.BreakerOpens", spec := "breakerOpens", inPlace := ["math.Float64frombits", "math.Float64bits"], apart := false, narrowed := true }
def BreakerOpensUptoSaid : Prop := breakerOpensUptoRow.holds Try.pinned (OpenSpec.upto breakerOpensSpec)

/-- 'pouchlaw10.BreakerExact', WHERE WHAT IT READS IS OF BULK AT MOST 1048576: true; the input reads as it did. -/
def breakerExactUptoRow : OpenClaim := { program := "ytiokhipgpfeoeaa", sum := "d8f8af87f64f8317f6ef41a87efd1dc1c8245e36d807ff382287663e470f85db", func := "pouch/pouchlaw10.BreakerExact", spec := "breakerExact", inPlace := ["math.Float64frombits", "math.Float64bits"], apart := false, narrowed := true }
def BreakerExactUptoSaid : Prop := breakerExactUptoRow.holds Try.pinned (OpenSpec.upto breakerExactSpec)

end Rows
end Go.Proofs.Ytiokhipgpfeoeaa
