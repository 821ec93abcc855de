/-
  NARROWER THAN 'FOR EVERY INPUT', by the rows' own cells (each row's printed sentence says how): RealClasses: laid · RealCmps: laid · RealBits: laid · RealSteps: laid · RealLeasts: laid · RealClamps: laid · RealOrder: laid · RealTexts: laid · RealParses: laid · RealEdges: laid.
  DERIVED. THE GIVEN ROWS OF THIS SEAT. 10 by the template 'for every input the law returns true; each argument reads behind the call as it read before'; 0 by the template 'total and deterministic' (their statements: YthnabafmjhackaaDoorTotals.lean).
  GIVEN WITH THE SEED: the statements are not yours to turn. If you find one false, say at which input.
  Laid BY PROGRAM, IN A SANDBOX (cutbox-rows.mjs): the forced cells as the released guide's own fill.sh prints them over the translation 40d9b1fbc682633c… (all of the seat's roots in one cut). By AI agents, Wed Nov 11 2026. No macro, syntax, notation, axiom, sorry.
-/
import Derived.Test.YthnabafmjhackaaDoorChecked
import GoSem.Claim
import GoSem.ClaimJoined
import GoSem.ClaimMapViews
import Derived.JoinedTies
import Derived.KernelRfl
namespace Go.Proofs.YthnabafmjhackaaDoor
/- THE CELL 'sum', in the pinned program and in every row, IS THE sha256 OF THE DUMP (.gsa) THAT YthnabafmjhackaaDoorProg.lean LOADS. Nothing in Lean hashes anything: it is a label: what it is worth is what the hold of that sum in a sandbox is worth. -/
noncomputable def Tryd.pinned : Pinned := { name := "ythnabafmjhackaadoor", sum := "40d9b1fbc682633cb5c5205629702a8981577e1a65fe528ba753280281631df2", checked := Tryd.checked }
namespace Rows
def none {H : Type} : Left H := { results := [], args := [] }

/- WHAT THE LISTED PACKAGE-LEVEL VARIABLES READ AS WHEN THE CALL BEGINS. Each datum BY PROGRAM (the guide's laid-datum.mjs) off the statement by which the dump's own 'gosem.cut.vars' lays the variable. In a bare row this is a premise. The card (YthnabafmjhackaaDoorCards.lean) ties it to the program's text. -/
def laid_math_bits_deBruijn32tab {H : Type} : DataW H := .agg [.lit (.int .u8 0), .lit (.int .u8 1), .lit (.int .u8 28), .lit (.int .u8 2), .lit (.int .u8 29), .lit (.int .u8 14), .lit (.int .u8 24), .lit (.int .u8 3), .lit (.int .u8 30), .lit (.int .u8 22), .lit (.int .u8 20), .lit (.int .u8 15), .lit (.int .u8 25), .lit (.int .u8 17), .lit (.int .u8 4), .lit (.int .u8 8), .lit (.int .u8 31), .lit (.int .u8 27), .lit (.int .u8 13), .lit (.int .u8 23), .lit (.int .u8 21), .lit (.int .u8 19), .lit (.int .u8 16), .lit (.int .u8 7), .lit (.int .u8 26), .lit (.int .u8 12), .lit (.int .u8 18), .lit (.int .u8 6), .lit (.int .u8 11), .lit (.int .u8 5), .lit (.int .u8 10), .lit (.int .u8 9)]
def laid_math_bits_deBruijn64tab {H : Type} : DataW H := .agg [.lit (.int .u8 0), .lit (.int .u8 1), .lit (.int .u8 56), .lit (.int .u8 2), .lit (.int .u8 57), .lit (.int .u8 49), .lit (.int .u8 28), .lit (.int .u8 3), .lit (.int .u8 61), .lit (.int .u8 58), .lit (.int .u8 42), .lit (.int .u8 50), .lit (.int .u8 38), .lit (.int .u8 29), .lit (.int .u8 17), .lit (.int .u8 4), .lit (.int .u8 62), .lit (.int .u8 47), .lit (.int .u8 59), .lit (.int .u8 36), .lit (.int .u8 45), .lit (.int .u8 43), .lit (.int .u8 51), .lit (.int .u8 22), .lit (.int .u8 53), .lit (.int .u8 39), .lit (.int .u8 33), .lit (.int .u8 30), .lit (.int .u8 24), .lit (.int .u8 18), .lit (.int .u8 12), .lit (.int .u8 5), .lit (.int .u8 63), .lit (.int .u8 55), .lit (.int .u8 48), .lit (.int .u8 27), .lit (.int .u8 60), .lit (.int .u8 41), .lit (.int .u8 37), .lit (.int .u8 16), .lit (.int .u8 46), .lit (.int .u8 35), .lit (.int .u8 44), .lit (.int .u8 21), .lit (.int .u8 52), .lit (.int .u8 32), .lit (.int .u8 23), .lit (.int .u8 11), .lit (.int .u8 54), .lit (.int .u8 26), .lit (.int .u8 40), .lit (.int .u8 15), .lit (.int .u8 34), .lit (.int .u8 20), .lit (.int .u8 31), .lit (.int .u8 10), .lit (.int .u8 25), .lit (.int .u8 14), .lit (.int .u8 19), .lit (.int .u8 9), .lit (.int .u8 13), .lit (.int .u8 8), .lit (.int .u8 7), .lit (.int .u8 6)]
def laid_internal_strconv_uint64pow10 {H : Type} : DataW H := .agg [.lit (.int .u64 1), .lit (.int .u64 10), .lit (.int .u64 100), .lit (.int .u64 1000), .lit (.int .u64 10000), .lit (.int .u64 100000), .lit (.int .u64 1000000), .lit (.int .u64 10000000), .lit (.int .u64 100000000), .lit (.int .u64 1000000000), .lit (.int .u64 10000000000), .lit (.int .u64 100000000000), .lit (.int .u64 1000000000000), .lit (.int .u64 10000000000000), .lit (.int .u64 100000000000000), .lit (.int .u64 1000000000000000), .lit (.int .u64 10000000000000000), .lit (.int .u64 100000000000000000), .lit (.int .u64 1000000000000000000), .lit (.int .u64 10000000000000000000)]
def laid_strconv_ErrRange {H : Type} : DataW H := .iface "*errors.errorString" (.ptr (.agg [.lit (.string [118, 97, 108, 117, 101, 32, 111, 117, 116, 32, 111, 102, 32, 114, 97, 110, 103, 101])]))
def laid_strconv_ErrSyntax {H : Type} : DataW H := .iface "*errors.errorString" (.ptr (.agg [.lit (.string [105, 110, 118, 97, 108, 105, 100, 32, 115, 121, 110, 116, 97, 120])]))

/-- 'pouchlaw6.RealClasses': WHATEVER THE INPUT: true; the input reads as it did. -/
def realClassesSpec : ChangeSpec := { name := "realClasses", fn := fun _ => fun
  | [d] => { results := [.lit (.bool true)], args := [d] }
  | _ => none }
def realClassesRow : OpenClaim := { program := "ythnabafmjhackaadoor", sum := "40d9b1fbc682633cb5c5205629702a8981577e1a65fe528ba753280281631df2", func := "pouch/pouchlaw6.RealClasses", spec := "realClasses", inPlace := ["math.Float64frombits", "math.Float64bits"], named := ["math/bits.deBruijn64tab", "internal/strconv.uint64pow10", "math/bits.deBruijn32tab"], apart := false, laid := [("math/bits.deBruijn32tab", laid_math_bits_deBruijn32tab), ("math/bits.deBruijn64tab", laid_math_bits_deBruijn64tab), ("internal/strconv.uint64pow10", laid_internal_strconv_uint64pow10)] }
def RealClassesSaid : Prop := realClassesRow.holds Tryd.pinned (OpenSpec.ofChange realClassesSpec)

/-- ITS FALSE NEIGHBOUR: 'it returns false'. Refute it at one input. -/
def realClassesWrong : ChangeSpec := { name := "realClasses", fn := fun _ => fun
  | [d] => { results := [.lit (.bool false)], args := [d] }
  | _ => none }
def RealClassesWrongFalsely : Prop := realClassesRow.holds Tryd.pinned (OpenSpec.ofChange realClassesWrong)

/-- 'pouchlaw6.RealCmps': WHATEVER THE INPUT: true; the input reads as it did. -/
def realCmpsSpec : ChangeSpec := { name := "realCmps", fn := fun _ => fun
  | [d] => { results := [.lit (.bool true)], args := [d] }
  | _ => none }
def realCmpsRow : OpenClaim := { program := "ythnabafmjhackaadoor", sum := "40d9b1fbc682633cb5c5205629702a8981577e1a65fe528ba753280281631df2", func := "pouch/pouchlaw6.RealCmps", spec := "realCmps", inPlace := ["math.Float64frombits", "math.Float64bits"], named := ["math/bits.deBruijn64tab", "internal/strconv.uint64pow10", "math/bits.deBruijn32tab"], apart := false, laid := [("math/bits.deBruijn32tab", laid_math_bits_deBruijn32tab), ("math/bits.deBruijn64tab", laid_math_bits_deBruijn64tab), ("internal/strconv.uint64pow10", laid_internal_strconv_uint64pow10)] }
def RealCmpsSaid : Prop := realCmpsRow.holds Tryd.pinned (OpenSpec.ofChange realCmpsSpec)

/-- ITS FALSE NEIGHBOUR: 'it returns false'. Refute it at one input. -/
def realCmpsWrong : ChangeSpec := { name := "realCmps", fn := fun _ => fun
  | [d] => { results := [.lit (.bool false)], args := [d] }
  | _ => none }
def RealCmpsWrongFalsely : Prop := realCmpsRow.holds Tryd.pinned (OpenSpec.ofChange realCmpsWrong)

/-- 'pouchlaw6.RealBits': WHATEVER THE INPUT: true; the input reads as it did. -/
def realBitsSpec : ChangeSpec := { name := "realBits", fn := fun _ => fun
  | [d] => { results := [.lit (.bool true)], args := [d] }
  | _ => none }
def realBitsRow : OpenClaim := { program := "ythnabafmjhackaadoor", sum := "40d9b1fbc682633cb5c5205629702a8981577e1a65fe528ba753280281631df2", func := "pouch/pouchlaw6.RealBits", spec := "realBits", inPlace := ["math.Float64frombits", "math.Float64bits"], named := ["math/bits.deBruijn64tab", "internal/strconv.uint64pow10", "math/bits.deBruijn32tab"], apart := false, laid := [("math/bits.deBruijn32tab", laid_math_bits_deBruijn32tab), ("math/bits.deBruijn64tab", laid_math_bits_deBruijn64tab), ("internal/strconv.uint64pow10", laid_internal_strconv_uint64pow10)] }
def RealBitsSaid : Prop := realBitsRow.holds Tryd.pinned (OpenSpec.ofChange realBitsSpec)

/-- ITS FALSE NEIGHBOUR: 'it returns false'. Refute it at one input. -/
def realBitsWrong : ChangeSpec := { name := "realBits", fn := fun _ => fun
  | [d] => { results := [.lit (.bool false)], args := [d] }
  | _ => none }
def RealBitsWrongFalsely : Prop := realBitsRow.holds Tryd.pinned (OpenSpec.ofChange realBitsWrong)

/-- 'pouchlaw6.RealSteps': WHATEVER THE INPUT: true; the input reads as it did. -/
def realStepsSpec : ChangeSpec := { name := "realSteps", fn := fun _ => fun
  | [d] => { results := [.lit (.bool true)], args := [d] }
  | _ => none }
def realStepsRow : OpenClaim := { program := "ythnabafmjhackaadoor", sum := "40d9b1fbc682633cb5c5205629702a8981577e1a65fe528ba753280281631df2", func := "pouch/pouchlaw6.RealSteps", spec := "realSteps", inPlace := ["math.Float64frombits", "math.Float64bits"], named := ["math/bits.deBruijn64tab", "internal/strconv.uint64pow10", "math/bits.deBruijn32tab"], apart := false, laid := [("math/bits.deBruijn32tab", laid_math_bits_deBruijn32tab), ("math/bits.deBruijn64tab", laid_math_bits_deBruijn64tab), ("internal/strconv.uint64pow10", laid_internal_strconv_uint64pow10)] }
def RealStepsSaid : Prop := realStepsRow.holds Tryd.pinned (OpenSpec.ofChange realStepsSpec)

/-- ITS FALSE NEIGHBOUR: 'it returns false'. Refute it at one input. -/
def realStepsWrong : ChangeSpec := { name := "realSteps", fn := fun _ => fun
  | [d] => { results := [.lit (.bool false)], args := [d] }
  | _ => none }
def RealStepsWrongFalsely : Prop := realStepsRow.holds Tryd.pinned (OpenSpec.ofChange realStepsWrong)

/-- 'pouchlaw6.RealLeasts': WHATEVER THE INPUT: true; the input reads as it did. -/
def realLeastsSpec : ChangeSpec := { name := "realLeasts", fn := fun _ => fun
  | [d] => { results := [.lit (.bool true)], args := [d] }
  | _ => none }
def realLeastsRow : OpenClaim := { program := "ythnabafmjhackaadoor", sum := "40d9b1fbc682633cb5c5205629702a8981577e1a65fe528ba753280281631df2", func := "pouch/pouchlaw6.RealLeasts", spec := "realLeasts", inPlace := ["math.Float64frombits", "math.Float64bits"], named := ["math/bits.deBruijn64tab", "internal/strconv.uint64pow10", "math/bits.deBruijn32tab"], apart := false, laid := [("math/bits.deBruijn32tab", laid_math_bits_deBruijn32tab), ("math/bits.deBruijn64tab", laid_math_bits_deBruijn64tab), ("internal/strconv.uint64pow10", laid_internal_strconv_uint64pow10)] }
def RealLeastsSaid : Prop := realLeastsRow.holds Tryd.pinned (OpenSpec.ofChange realLeastsSpec)

/-- ITS FALSE NEIGHBOUR: 'it returns false'. Refute it at one input. -/
def realLeastsWrong : ChangeSpec := { name := "realLeasts", fn := fun _ => fun
  | [d] => { results := [.lit (.bool false)], args := [d] }
  | _ => none }
def RealLeastsWrongFalsely : Prop := realLeastsRow.holds Tryd.pinned (OpenSpec.ofChange realLeastsWrong)

/-- 'pouchlaw6.RealClamps': WHATEVER THE INPUT: true; the input reads as it did. -/
def realClampsSpec : ChangeSpec := { name := "realClamps", fn := fun _ => fun
  | [d] => { results := [.lit (.bool true)], args := [d] }
  | _ => none }
def realClampsRow : OpenClaim := { program := "ythnabafmjhackaadoor", sum := "40d9b1fbc682633cb5c5205629702a8981577e1a65fe528ba753280281631df2", func := "pouch/pouchlaw6.RealClamps", spec := "realClamps", inPlace := ["math.Float64frombits", "math.Float64bits"], named := ["math/bits.deBruijn64tab", "internal/strconv.uint64pow10", "math/bits.deBruijn32tab"], apart := false, laid := [("math/bits.deBruijn32tab", laid_math_bits_deBruijn32tab), ("math/bits.deBruijn64tab", laid_math_bits_deBruijn64tab), ("internal/strconv.uint64pow10", laid_internal_strconv_uint64pow10)] }
def RealClampsSaid : Prop := realClampsRow.holds Tryd.pinned (OpenSpec.ofChange realClampsSpec)

/-- ITS FALSE NEIGHBOUR: 'it returns false'. Refute it at one input. -/
def realClampsWrong : ChangeSpec := { name := "realClamps", fn := fun _ => fun
  | [d] => { results := [.lit (.bool false)], args := [d] }
  | _ => none }
def RealClampsWrongFalsely : Prop := realClampsRow.holds Tryd.pinned (OpenSpec.ofChange realClampsWrong)

/-- 'pouchlaw6.RealOrder': WHATEVER THE INPUT: true; the input reads as it did. -/
def realOrderSpec : ChangeSpec := { name := "realOrder", fn := fun _ => fun
  | [d] => { results := [.lit (.bool true)], args := [d] }
  | _ => none }
def realOrderRow : OpenClaim := { program := "ythnabafmjhackaadoor", sum := "40d9b1fbc682633cb5c5205629702a8981577e1a65fe528ba753280281631df2", func := "pouch/pouchlaw6.RealOrder", spec := "realOrder", inPlace := ["math.Float64frombits", "math.Float64bits"], named := ["math/bits.deBruijn64tab", "internal/strconv.uint64pow10", "math/bits.deBruijn32tab"], apart := false, laid := [("math/bits.deBruijn32tab", laid_math_bits_deBruijn32tab), ("math/bits.deBruijn64tab", laid_math_bits_deBruijn64tab), ("internal/strconv.uint64pow10", laid_internal_strconv_uint64pow10)] }
def RealOrderSaid : Prop := realOrderRow.holds Tryd.pinned (OpenSpec.ofChange realOrderSpec)

/-- ITS FALSE NEIGHBOUR: 'it returns false'. Refute it at one input. -/
def realOrderWrong : ChangeSpec := { name := "realOrder", fn := fun _ => fun
  | [d] => { results := [.lit (.bool false)], args := [d] }
  | _ => none }
def RealOrderWrongFalsely : Prop := realOrderRow.holds Tryd.pinned (OpenSpec.ofChange realOrderWrong)

/-- 'pouchlaw6.RealTexts': WHATEVER THE INPUT: true; the input reads as it did. -/
def realTextsSpec : ChangeSpec := { name := "realTexts", fn := fun _ => fun
  | [d] => { results := [.lit (.bool true)], args := [d] }
  | _ => none }
def realTextsRow : OpenClaim := { program := "ythnabafmjhackaadoor", sum := "40d9b1fbc682633cb5c5205629702a8981577e1a65fe528ba753280281631df2", func := "pouch/pouchlaw6.RealTexts", spec := "realTexts", inPlace := ["math.Float64frombits", "math.Float64bits", "internal/bytealg.IndexByteString", "internal/bytealg.IndexString"], recurses := true, named := ["math/bits.deBruijn64tab", "internal/strconv.uint64pow10", "math/bits.deBruijn32tab", "internal/bytealg.MaxLen", "strconv.ErrSyntax", "strconv.ErrRange"], apart := false, laid := [("math/bits.deBruijn32tab", laid_math_bits_deBruijn32tab), ("math/bits.deBruijn64tab", laid_math_bits_deBruijn64tab), ("internal/strconv.uint64pow10", laid_internal_strconv_uint64pow10), ("strconv.ErrRange", laid_strconv_ErrRange), ("strconv.ErrSyntax", laid_strconv_ErrSyntax)] }
def RealTextsSaid : Prop := realTextsRow.holds Tryd.pinned (OpenSpec.ofChange realTextsSpec)

/-- ITS FALSE NEIGHBOUR: 'it returns false'. Refute it at one input. -/
def realTextsWrong : ChangeSpec := { name := "realTexts", fn := fun _ => fun
  | [d] => { results := [.lit (.bool false)], args := [d] }
  | _ => none }
def RealTextsWrongFalsely : Prop := realTextsRow.holds Tryd.pinned (OpenSpec.ofChange realTextsWrong)

/-- 'pouchlaw6.RealParses': WHATEVER THE INPUT: true; the input reads as it did. -/
def realParsesSpec : ChangeSpec := { name := "realParses", fn := fun _ => fun
  | [d] => { results := [.lit (.bool true)], args := [d] }
  | _ => none }
def realParsesRow : OpenClaim := { program := "ythnabafmjhackaadoor", sum := "40d9b1fbc682633cb5c5205629702a8981577e1a65fe528ba753280281631df2", func := "pouch/pouchlaw6.RealParses", spec := "realParses", inPlace := ["math.Float64frombits", "math.Float64bits", "internal/bytealg.IndexByteString", "internal/bytealg.IndexString"], recurses := true, named := ["internal/bytealg.MaxLen", "strconv.ErrSyntax", "strconv.ErrRange", "internal/strconv.uint64pow10", "math/bits.deBruijn32tab", "math/bits.deBruijn64tab"], apart := false, laid := [("math/bits.deBruijn32tab", laid_math_bits_deBruijn32tab), ("math/bits.deBruijn64tab", laid_math_bits_deBruijn64tab), ("internal/strconv.uint64pow10", laid_internal_strconv_uint64pow10), ("strconv.ErrRange", laid_strconv_ErrRange), ("strconv.ErrSyntax", laid_strconv_ErrSyntax)] }
def RealParsesSaid : Prop := realParsesRow.holds Tryd.pinned (OpenSpec.ofChange realParsesSpec)

/-- ITS FALSE NEIGHBOUR: 'it returns false'. Refute it at one input. -/
def realParsesWrong : ChangeSpec := { name := "realParses", fn := fun _ => fun
  | [d] => { results := [.lit (.bool false)], args := [d] }
  | _ => none }
def RealParsesWrongFalsely : Prop := realParsesRow.holds Tryd.pinned (OpenSpec.ofChange realParsesWrong)

/-- 'pouchlaw6.RealEdges': WHATEVER THE INPUT: true; the input reads as it did. -/
def realEdgesSpec : ChangeSpec := { name := "realEdges", fn := fun _ => fun
  | [d] => { results := [.lit (.bool true)], args := [d] }
  | _ => none }
def realEdgesRow : OpenClaim := { program := "ythnabafmjhackaadoor", sum := "40d9b1fbc682633cb5c5205629702a8981577e1a65fe528ba753280281631df2", func := "pouch/pouchlaw6.RealEdges", spec := "realEdges", inPlace := ["math.Float64frombits", "math.Float64bits", "internal/bytealg.IndexByteString", "internal/bytealg.IndexString"], named := ["math/bits.deBruijn64tab", "internal/strconv.uint64pow10", "math/bits.deBruijn32tab", "internal/bytealg.MaxLen", "strconv.ErrSyntax", "strconv.ErrRange"], apart := false, laid := [("math/bits.deBruijn32tab", laid_math_bits_deBruijn32tab), ("math/bits.deBruijn64tab", laid_math_bits_deBruijn64tab), ("internal/strconv.uint64pow10", laid_internal_strconv_uint64pow10), ("strconv.ErrRange", laid_strconv_ErrRange), ("strconv.ErrSyntax", laid_strconv_ErrSyntax)] }
def RealEdgesSaid : Prop := realEdgesRow.holds Tryd.pinned (OpenSpec.ofChange realEdgesSpec)

/-- ITS FALSE NEIGHBOUR: 'it returns false'. Refute it at one input. -/
def realEdgesWrong : ChangeSpec := { name := "realEdges", fn := fun _ => fun
  | [d] => { results := [.lit (.bool false)], args := [d] }
  | _ => none }
def RealEdgesWrongFalsely : Prop := realEdgesRow.holds Tryd.pinned (OpenSpec.ofChange realEdgesWrong)

/- THE SECOND FORM. 'bulk': how many values and letters a reading holds, each counted each time it is reached (what is shared counts as often as it is met; a slice's spare places count too). A statement '..UptoSaid' is the law's where the arguments, and the package variables that the reading takes, are together of bulk at most 1048576: NARROWER than '..Said'. Prove '..Said' where nothing that the law and all that it calls make is longer than what came in: it says more and counts as full. Else prove '..UptoSaid'. A law counts once. -/
mutual
def uptoBulk {H : Type} : DataW H → Nat
  | .lit (.string bytes) => bytes.length + 1
  | .lit _ => 1
  | .nil => 1
  | .ptr d => uptoBulk d + 1
  | .slice elems spare => uptoBulkAll elems + uptoBulkAll spare + 1
  | .agg parts => uptoBulkAll parts + 1
  | .iface _ d => uptoBulk d + 1
  | .map entries => uptoBulkEntries entries + 1
  | .held _ => 1
def uptoBulkAll {H : Type} : List (DataW H) → Nat
  | [] => 0
  | d :: r => uptoBulk d + uptoBulkAll r
def uptoBulkEntries {H : Type} : List (Lit × DataW H) → Nat
  | [] => 0
  | x :: r => uptoBulkEntry x + uptoBulkEntries r
def uptoBulkEntry {H : Type} : Lit × DataW H → Nat
  | (.string bytes, d) => bytes.length + uptoBulk d + 1
  | (_, d) => uptoBulk d + 1
 end
def uptoSmall : (H : Type) → List (DataW H) → Bool := fun _ ds => decide (uptoBulkAll ds ≤ 1048576)
def OpenSpec.upto (s : _root_.Go.ChangeSpec) : _root_.Go.OpenSpec := { _root_.Go.OpenSpec.ofChange s with cond := some uptoSmall }

/-- 'pouchlaw6.RealClasses', WHERE WHAT IT READS IS OF BULK AT MOST 1048576: true; the input reads as it did. -/
def realClassesUptoRow : OpenClaim := { program := "ythnabafmjhackaadoor", sum := "40d9b1fbc682633cb5c5205629702a8981577e1a65fe528ba753280281631df2", func := "pouch/pouchlaw6.RealClasses", spec := "realClasses", inPlace := ["math.Float64frombits", "math.Float64bits"], named := ["math/bits.deBruijn64tab", "internal/strconv.uint64pow10", "math/bits.deBruijn32tab"], apart := false, laid := [("math/bits.deBruijn32tab", laid_math_bits_deBruijn32tab), ("math/bits.deBruijn64tab", laid_math_bits_deBruijn64tab), ("internal/strconv.uint64pow10", laid_internal_strconv_uint64pow10)], narrowed := true }
def RealClassesUptoSaid : Prop := realClassesUptoRow.holds Tryd.pinned (OpenSpec.upto realClassesSpec)

/-- 'pouchlaw6.RealCmps', WHERE WHAT IT READS IS OF BULK AT MOST 1048576: true; the input reads as it did. -/
def realCmpsUptoRow : OpenClaim := { program := "ythnabafmjhackaadoor", sum := "40d9b1fbc682633cb5c5205629702a8981577e1a65fe528ba753280281631df2", func := "pouch/pouchlaw6.RealCmps", spec := "realCmps", inPlace := ["math.Float64frombits", "math.Float64bits"], named := ["math/bits.deBruijn64tab", "internal/strconv.uint64pow10", "math/bits.deBruijn32tab"], apart := false, laid := [("math/bits.deBruijn32tab", laid_math_bits_deBruijn32tab), ("math/bits.deBruijn64tab", laid_math_bits_deBruijn64tab), ("internal/strconv.uint64pow10", laid_internal_strconv_uint64pow10)], narrowed := true }
def RealCmpsUptoSaid : Prop := realCmpsUptoRow.holds Tryd.pinned (OpenSpec.upto realCmpsSpec)

/-- 'pouchlaw6.RealBits', WHERE WHAT IT READS IS OF BULK AT MOST 1048576: true; the input reads as it did. -/
def realBitsUptoRow : OpenClaim := { program := "ythnabafmjhackaadoor", sum := "40d9b1fbc682633cb5c5205629702a8981577e1a65fe528ba753280281631df2", func := "pouch/pouchlaw6.RealBits", spec := "realBits", inPlace := ["math.Float64frombits", "math.Float64bits"], named := ["math/bits.deBruijn64tab", "internal/strconv.uint64pow10", "math/bits.deBruijn32tab"], apart := false, laid := [("math/bits.deBruijn32tab", laid_math_bits_deBruijn32tab), ("math/bits.deBruijn64tab", laid_math_bits_deBruijn64tab), ("internal/strconv.uint64pow10", laid_internal_strconv_uint64pow10)], narrowed := true }
def RealBitsUptoSaid : Prop := realBitsUptoRow.holds Tryd.pinned (OpenSpec.upto realBitsSpec)

/-- 'pouchlaw6.RealSteps', WHERE WHAT IT READS IS OF BULK AT MOST 1048576: true; the input reads as it did. -/
def realStepsUptoRow : OpenClaim := { program := "ythnabafmjhackaadoor", sum := "40d9b1fbc682633cb5c5205629702a8981577e1a65fe528ba753280281631df2", func := "pouch/pouchlaw6.RealSteps", spec := "realSteps", inPlace := ["math.Float64frombits", "math.Float64bits"], named := ["math/bits.deBruijn64tab", "internal/strconv.uint64pow10", "math/bits.deBruijn32tab"], apart := false, laid := [("math/bits.deBruijn32tab", laid_math_bits_deBruijn32tab), ("math/bits.deBruijn64tab", laid_math_bits_deBruijn64tab), ("internal/strconv.uint64pow10", laid_internal_strconv_uint64pow10)], narrowed := true }
def RealStepsUptoSaid : Prop := realStepsUptoRow.holds Tryd.pinned (OpenSpec.upto realStepsSpec)

/-- 'pouchlaw6.RealLeasts', WHERE WHAT IT READS IS OF BULK AT MOST 1048576: true; the input reads as it did. -/
def realLeastsUptoRow : OpenClaim := { program := "ythnabafmjhackaadoor", sum := "40d9b1fbc682633cb5c5205629702a8981577e1a65fe528ba753280281631df2", func := "pouch/pouchlaw6.RealLeasts", spec := "realLeasts", inPlace := ["math.Float64frombits", "math.Float64bits"], named := ["math/bits.deBruijn64tab", "internal/strconv.uint64pow10", "math/bits.deBruijn32tab"], apart := false, laid := [("math/bits.deBruijn32tab", laid_math_bits_deBruijn32tab), ("math/bits.deBruijn64tab", laid_math_bits_deBruijn64tab), ("internal/strconv.uint64pow10", laid_internal_strconv_uint64pow10)], narrowed := true }
def RealLeastsUptoSaid : Prop := realLeastsUptoRow.holds Tryd.pinned (OpenSpec.upto realLeastsSpec)

/-- 'pouchlaw6.RealClamps', WHERE WHAT IT READS IS OF BULK AT MOST 1048576: true; the input reads as it did. -/
def realClampsUptoRow : OpenClaim := { program := "ythnabafmjhackaadoor", sum := "40d9b1fbc682633cb5c5205629702a8981577e1a65fe528ba753280281631df2", func := "pouch/pouchlaw6.RealClamps", spec := "realClamps", inPlace := ["math.Float64frombits", "math.Float64bits"], named := ["math/bits.deBruijn64tab", "internal/strconv.uint64pow10", "math/bits.deBruijn32tab"], apart := false, laid := [("math/bits.deBruijn32tab", laid_math_bits_deBruijn32tab), ("math/bits.deBruijn64tab", laid_math_bits_deBruijn64tab), ("internal/strconv.uint64pow10", laid_internal_strconv_uint64pow10)], narrowed := true }
def RealClampsUptoSaid : Prop := realClampsUptoRow.holds Tryd.pinned (OpenSpec.upto realClampsSpec)

/-- 'pouchlaw6.RealOrder', WHERE WHAT IT READS IS OF BULK AT MOST 1048576: true; the input reads as it did. -/
def realOrderUptoRow : OpenClaim := { program := "ythnabafmjhackaadoor", sum := "40d9b1fbc682633cb5c5205629702a8981577e1a65fe528ba753280281631df2", func := "pouch/pouchlaw6.RealOrder", spec := "realOrder", inPlace := ["math.Float64frombits", "math.Float64bits"], named := ["math/bits.deBruijn64tab", "internal/strconv.uint64pow10", "math/bits.deBruijn32tab"], apart := false, laid := [("math/bits.deBruijn32tab", laid_math_bits_deBruijn32tab), ("math/bits.deBruijn64tab", laid_math_bits_deBruijn64tab), ("internal/strconv.uint64pow10", laid_internal_strconv_uint64pow10)], narrowed := true }
def RealOrderUptoSaid : Prop := realOrderUptoRow.holds Tryd.pinned (OpenSpec.upto realOrderSpec)

/-- 'pouchlaw6.RealTexts', WHERE WHAT IT READS IS OF BULK AT MOST 1048576: true; the input reads as it did. -/
def realTextsUptoRow : OpenClaim := { program := "ythnabafmjhackaadoor", sum := "40d9b1fbc682633cb5c5205629702a8981577e1a65fe528ba753280281631df2", func := "pouch/pouchlaw6.RealTexts", spec := "realTexts", inPlace := ["math.Float64frombits", "math.Float64bits", "internal/bytealg.IndexByteString", "internal/bytealg.IndexString"], recurses := true, named := ["math/bits.deBruijn64tab", "internal/strconv.uint64pow10", "math/bits.deBruijn32tab", "internal/bytealg.MaxLen", "strconv.ErrSyntax", "strconv.ErrRange"], apart := false, laid := [("math/bits.deBruijn32tab", laid_math_bits_deBruijn32tab), ("math/bits.deBruijn64tab", laid_math_bits_deBruijn64tab), ("internal/strconv.uint64pow10", laid_internal_strconv_uint64pow10), ("strconv.ErrRange", laid_strconv_ErrRange), ("strconv.ErrSyntax", laid_strconv_ErrSyntax)], narrowed := true }
def RealTextsUptoSaid : Prop := realTextsUptoRow.holds Tryd.pinned (OpenSpec.upto realTextsSpec)

/-- 'pouchlaw6.RealParses', WHERE WHAT IT READS IS OF BULK AT MOST 1048576: true; the input reads as it did. -/
def realParsesUptoRow : OpenClaim := { program := "ythnabafmjhackaadoor", sum := "40d9b1fbc682633cb5c5205629702a8981577e1a65fe528ba753280281631df2", func := "pouch/pouchlaw6.RealParses", spec := "realParses", inPlace := ["math.Float64frombits", "math.Float64bits", "internal/bytealg.IndexByteString", "internal/bytealg.IndexString"], recurses := true, named := ["internal/bytealg.MaxLen", "strconv.ErrSyntax", "strconv.ErrRange", "internal/strconv.uint64pow10", "math/bits.deBruijn32tab", "math/bits.deBruijn64tab"], apart := false, laid := [("math/bits.deBruijn32tab", laid_math_bits_deBruijn32tab), ("math/bits.deBruijn64tab", laid_math_bits_deBruijn64tab), ("internal/strconv.uint64pow10", laid_internal_strconv_uint64pow10), ("strconv.ErrRange", laid_strconv_ErrRange), ("strconv.ErrSyntax", laid_strconv_ErrSyntax)], narrowed := true }
def RealParsesUptoSaid : Prop := realParsesUptoRow.holds Tryd.pinned (OpenSpec.upto realParsesSpec)

/-- 'pouchlaw6.RealEdges', WHERE WHAT IT READS IS OF BULK AT MOST 1048576: true; the input reads as it did. -/
def realEdgesUptoRow : OpenClaim := { program := "ythnabafmjhackaadoor", sum := "40d9b1fbc682633cb5c5205629702a8981577e1a65fe528ba753280281631df2", func := "pouch/pouchlaw6.RealEdges", spec := "realEdges", inPlace := ["math.Float64frombits", "math.Float64bits", "internal/bytealg.IndexByteString", "internal/bytealg.IndexString"], named := ["math/bits.deBruijn64tab", "internal/strconv.uint64pow10", "math/bits.deBruijn32tab", "internal/bytealg.MaxLen", "strconv.ErrSyntax", "strconv.ErrRange"], apart := false, laid := [("math/bits.deBruijn32tab", laid_math_bits_deBruijn32tab), ("math/bits.deBruijn64tab", laid_math_bits_deBruijn64tab), ("internal/strconv.uint64pow10", laid_internal_strconv_uint64pow10), ("strconv.ErrRange", laid_strconv_ErrRange), ("strconv.ErrSyntax", laid_strconv_ErrSyntax)], narrowed := true }
def RealEdgesUptoSaid : Prop := realEdgesUptoRow.holds Tryd.pinned (OpenSpec.upto realEdgesSpec)

end Rows
end Go.Proofs.YthnabafmjhackaaDoor
