/-
  No cell of these rows narrows 'for every input' (looked for: loops, veiled, ifaces, maps, wideKeys, modest, calm, conditions, laid).
  DERIVED. THE GIVEN ROWS OF THIS SEAT. 10 by the template 'for every input the law returns true; each argument reads behind the call as it read before'; 0 by the template 'total and deterministic' (their statements: YtpaiioipoibahaaTotals.lean).
  GIVEN WITH THE SEED: the statements are not yours to turn. If you find one false, say at which input.
  Laid BY PROGRAM, IN A SANDBOX (cutbox-rows.mjs): the forced cells as the released guide's own fill.sh prints them over the translation 3bc8d6e580248b6e… (all of the seat's roots in one cut). By AI agents, Wed Nov 11 2026. No macro, syntax, notation, axiom, sorry.
-/
import Derived.Test.YtpaiioipoibahaaChecked
import GoSem.Claim
import GoSem.ClaimJoined
import GoSem.ClaimMapViews
import Derived.JoinedTies
import Derived.KernelRfl
namespace Go.Proofs.Ytpaiioipoibahaa
/- THE CELL 'sum', in the pinned program and in every row, IS THE sha256 OF THE DUMP (.gsa) THAT YtpaiioipoibahaaProg.lean LOADS. Nothing in Lean hashes anything: it is a label: what it is worth is what the hold of that sum in a sandbox is worth. -/
noncomputable def Try.pinned : Pinned := { name := "ytpaiioipoibahaa", sum := "3bc8d6e580248b6e699ddb54b07f676328d7cafb3a898e9f3159b436b38cc5c8", checked := Try.checked }
namespace Rows
def none {H : Type} : Left H := { results := [], args := [] }

/-- 'pouchlaw12.SumSums': WHATEVER THE INPUT: true; the input reads as it did. -/
def sumSumsSpec : ChangeSpec := { name := "sumSums", fn := fun _ => fun
  | [d] => { results := [.lit (.bool true)], args := [d] }
  | _ => none }
def sumSumsRow : OpenClaim := { program := "ytpaiioipoibahaa", sum := "3bc8d6e580248b6e699ddb54b07f676328d7cafb3a898e9f3159b436b38cc5c8", func := "pouch/pouchlaw12.SumSums", spec := "sumSums", apart := false }
def SumSumsSaid : Prop := sumSumsRow.holds Try.pinned (OpenSpec.ofChange sumSumsSpec)

/-- ITS FALSE NEIGHBOUR: 'it returns false'. Refute it at one input. -/
def sumSumsWrong : ChangeSpec := { name := "sumSums", fn := fun _ => fun
  | [d] => { results := [.lit (.bool false)], args := [d] }
  | _ => none }
def SumSumsWrongFalsely : Prop := sumSumsRow.holds Try.pinned (OpenSpec.ofChange sumSumsWrong)

/-- 'pouchlaw12.SumParts': WHATEVER THE INPUT: true; the input reads as it did. -/
def sumPartsSpec : ChangeSpec := { name := "sumParts", fn := fun _ => fun
  | [d] => { results := [.lit (.bool true)], args := [d] }
  | _ => none }
def sumPartsRow : OpenClaim := { program := "ytpaiioipoibahaa", sum := "3bc8d6e580248b6e699ddb54b07f676328d7cafb3a898e9f3159b436b38cc5c8", func := "pouch/pouchlaw12.SumParts", spec := "sumParts", apart := false }
def SumPartsSaid : Prop := sumPartsRow.holds Try.pinned (OpenSpec.ofChange sumPartsSpec)

/-- ITS FALSE NEIGHBOUR: 'it returns false'. Refute it at one input. -/
def sumPartsWrong : ChangeSpec := { name := "sumParts", fn := fun _ => fun
  | [d] => { results := [.lit (.bool false)], args := [d] }
  | _ => none }
def SumPartsWrongFalsely : Prop := sumPartsRow.holds Try.pinned (OpenSpec.ofChange sumPartsWrong)

/-- 'pouchlaw11.BackoffNexts': WHATEVER THE INPUT: true; the input reads as it did. -/
def backoffNextsSpec : ChangeSpec := { name := "backoffNexts", fn := fun _ => fun
  | [d] => { results := [.lit (.bool true)], args := [d] }
  | _ => none }
def backoffNextsRow : OpenClaim := { program := "ytpaiioipoibahaa", sum := "3bc8d6e580248b6e699ddb54b07f676328d7cafb3a898e9f3159b436b38cc5c8", func := "pouch/pouchlaw11.BackoffNexts", spec := "backoffNexts", apart := false }
def BackoffNextsSaid : Prop := backoffNextsRow.holds Try.pinned (OpenSpec.ofChange backoffNextsSpec)

/-- ITS FALSE NEIGHBOUR: 'it returns false'. Refute it at one input. -/
def backoffNextsWrong : ChangeSpec := { name := "backoffNexts", fn := fun _ => fun
  | [d] => { results := [.lit (.bool false)], args := [d] }
  | _ => none }
def BackoffNextsWrongFalsely : Prop := backoffNextsRow.holds Try.pinned (OpenSpec.ofChange backoffNextsWrong)

/-- 'pouchlaw11.BackoffAlls': WHATEVER THE INPUT: true; the input reads as it did. -/
def backoffAllsSpec : ChangeSpec := { name := "backoffAlls", fn := fun _ => fun
  | [d] => { results := [.lit (.bool true)], args := [d] }
  | _ => none }
def backoffAllsRow : OpenClaim := { program := "ytpaiioipoibahaa", sum := "3bc8d6e580248b6e699ddb54b07f676328d7cafb3a898e9f3159b436b38cc5c8", func := "pouch/pouchlaw11.BackoffAlls", spec := "backoffAlls", apart := false }
def BackoffAllsSaid : Prop := backoffAllsRow.holds Try.pinned (OpenSpec.ofChange backoffAllsSpec)

/-- ITS FALSE NEIGHBOUR: 'it returns false'. Refute it at one input. -/
def backoffAllsWrong : ChangeSpec := { name := "backoffAlls", fn := fun _ => fun
  | [d] => { results := [.lit (.bool false)], args := [d] }
  | _ => none }
def BackoffAllsWrongFalsely : Prop := backoffAllsRow.holds Try.pinned (OpenSpec.ofChange backoffAllsWrong)

/-- 'pouchlaw8.BucketParts': WHATEVER THE INPUT: true; the input reads as it did. -/
def bucketPartsSpec : ChangeSpec := { name := "bucketParts", fn := fun _ => fun
  | [d] => { results := [.lit (.bool true)], args := [d] }
  | _ => none }
def bucketPartsRow : OpenClaim := { program := "ytpaiioipoibahaa", sum := "3bc8d6e580248b6e699ddb54b07f676328d7cafb3a898e9f3159b436b38cc5c8", func := "pouch/pouchlaw8.BucketParts", spec := "bucketParts", apart := false }
def BucketPartsSaid : Prop := bucketPartsRow.holds Try.pinned (OpenSpec.ofChange bucketPartsSpec)

/-- ITS FALSE NEIGHBOUR: 'it returns false'. Refute it at one input. -/
def bucketPartsWrong : ChangeSpec := { name := "bucketParts", fn := fun _ => fun
  | [d] => { results := [.lit (.bool false)], args := [d] }
  | _ => none }
def BucketPartsWrongFalsely : Prop := bucketPartsRow.holds Try.pinned (OpenSpec.ofChange bucketPartsWrong)

/-- 'pouchlaw8.BucketWaits': WHATEVER THE INPUT: true; the input reads as it did. -/
def bucketWaitsSpec : ChangeSpec := { name := "bucketWaits", fn := fun _ => fun
  | [d] => { results := [.lit (.bool true)], args := [d] }
  | _ => none }
def bucketWaitsRow : OpenClaim := { program := "ytpaiioipoibahaa", sum := "3bc8d6e580248b6e699ddb54b07f676328d7cafb3a898e9f3159b436b38cc5c8", func := "pouch/pouchlaw8.BucketWaits", spec := "bucketWaits", apart := false }
def BucketWaitsSaid : Prop := bucketWaitsRow.holds Try.pinned (OpenSpec.ofChange bucketWaitsSpec)

/-- ITS FALSE NEIGHBOUR: 'it returns false'. Refute it at one input. -/
def bucketWaitsWrong : ChangeSpec := { name := "bucketWaits", fn := fun _ => fun
  | [d] => { results := [.lit (.bool false)], args := [d] }
  | _ => none }
def BucketWaitsWrongFalsely : Prop := bucketWaitsRow.holds Try.pinned (OpenSpec.ofChange bucketWaitsWrong)

/-- 'pouchlaw8.BucketRates': WHATEVER THE INPUT: true; the input reads as it did. -/
def bucketRatesSpec : ChangeSpec := { name := "bucketRates", fn := fun _ => fun
  | [d] => { results := [.lit (.bool true)], args := [d] }
  | _ => none }
def bucketRatesRow : OpenClaim := { program := "ytpaiioipoibahaa", sum := "3bc8d6e580248b6e699ddb54b07f676328d7cafb3a898e9f3159b436b38cc5c8", func := "pouch/pouchlaw8.BucketRates", spec := "bucketRates", apart := false }
def BucketRatesSaid : Prop := bucketRatesRow.holds Try.pinned (OpenSpec.ofChange bucketRatesSpec)

/-- ITS FALSE NEIGHBOUR: 'it returns false'. Refute it at one input. -/
def bucketRatesWrong : ChangeSpec := { name := "bucketRates", fn := fun _ => fun
  | [d] => { results := [.lit (.bool false)], args := [d] }
  | _ => none }
def BucketRatesWrongFalsely : Prop := bucketRatesRow.holds Try.pinned (OpenSpec.ofChange bucketRatesWrong)

/-- 'pouchlaw8.BucketExact': WHATEVER THE INPUT: true; the input reads as it did. -/
def bucketExactSpec : ChangeSpec := { name := "bucketExact", fn := fun _ => fun
  | [d] => { results := [.lit (.bool true)], args := [d] }
  | _ => none }
def bucketExactRow : OpenClaim := { program := "ytpaiioipoibahaa", sum := "3bc8d6e580248b6e699ddb54b07f676328d7cafb3a898e9f3159b436b38cc5c8", func := "pouch/pouchlaw8.BucketExact", spec := "bucketExact", apart := false }
def BucketExactSaid : Prop := bucketExactRow.holds Try.pinned (OpenSpec.ofChange bucketExactSpec)

/-- ITS FALSE NEIGHBOUR: 'it returns false'. Refute it at one input. -/
def bucketExactWrong : ChangeSpec := { name := "bucketExact", fn := fun _ => fun
  | [d] => { results := [.lit (.bool false)], args := [d] }
  | _ => none }
def BucketExactWrongFalsely : Prop := bucketExactRow.holds Try.pinned (OpenSpec.ofChange bucketExactWrong)

/-- 'pouchlaw3.ReplyParses': WHATEVER THE INPUT: true; the input reads as it did. -/
def replyParsesSpec : ChangeSpec := { name := "replyParses", fn := fun _ => fun
  | [d] => { results := [.lit (.bool true)], args := [d] }
  | _ => none }
def replyParsesRow : OpenClaim := { program := "ytpaiioipoibahaa", sum := "3bc8d6e580248b6e699ddb54b07f676328d7cafb3a898e9f3159b436b38cc5c8", func := "pouch/pouchlaw3.ReplyParses", spec := "replyParses", unfollowed := true, recurses := true, apart := false }
def ReplyParsesSaid : Prop := replyParsesRow.holds Try.pinned (OpenSpec.ofChange replyParsesSpec)

/-- ITS FALSE NEIGHBOUR: 'it returns false'. Refute it at one input. -/
def replyParsesWrong : ChangeSpec := { name := "replyParses", fn := fun _ => fun
  | [d] => { results := [.lit (.bool false)], args := [d] }
  | _ => none }
def ReplyParsesWrongFalsely : Prop := replyParsesRow.holds Try.pinned (OpenSpec.ofChange replyParsesWrong)

/-- 'pouchlaw3.ReplyWrongs': WHATEVER THE INPUT: true; the input reads as it did. -/
def replyWrongsSpec : ChangeSpec := { name := "replyWrongs", fn := fun _ => fun
  | [d] => { results := [.lit (.bool true)], args := [d] }
  | _ => none }
def replyWrongsRow : OpenClaim := { program := "ytpaiioipoibahaa", sum := "3bc8d6e580248b6e699ddb54b07f676328d7cafb3a898e9f3159b436b38cc5c8", func := "pouch/pouchlaw3.ReplyWrongs", spec := "replyWrongs", unfollowed := true, recurses := true, apart := false }
def ReplyWrongsSaid : Prop := replyWrongsRow.holds Try.pinned (OpenSpec.ofChange replyWrongsSpec)

/-- ITS FALSE NEIGHBOUR: 'it returns false'. Refute it at one input. -/
def replyWrongsWrong : ChangeSpec := { name := "replyWrongs", fn := fun _ => fun
  | [d] => { results := [.lit (.bool false)], args := [d] }
  | _ => none }
def ReplyWrongsWrongFalsely : Prop := replyWrongsRow.holds Try.pinned (OpenSpec.ofChange replyWrongsWrong)

/- THE SECOND FORM. 'bulk': how many values and letters a reading holds, each counted each time it is reached (what is shared counts as often as it is met; a slice's spare places count too). A statement '..UptoSaid' is the law's where the arguments, and the package variables that the reading takes, are together of bulk at most 1048576: NARROWER than '..Said'. Prove '..Said' where nothing that the law and all that it calls make is longer than what came in: it says more and counts as full. Else prove '..UptoSaid'. A law counts once. -/
mutual
def uptoBulk {H : Type} : DataW H → Nat
  | .lit (.string bytes) => bytes.length + 1
  | .lit _ => 1
  | .nil => 1
  | .ptr d => uptoBulk d + 1
  | .slice elems spare => uptoBulkAll elems + uptoBulkAll spare + 1
  | .agg parts => uptoBulkAll parts + 1
  | .iface _ d => uptoBulk d + 1
  | .map entries => uptoBulkEntries entries + 1
  | .held _ => 1
def uptoBulkAll {H : Type} : List (DataW H) → Nat
  | [] => 0
  | d :: r => uptoBulk d + uptoBulkAll r
def uptoBulkEntries {H : Type} : List (Lit × DataW H) → Nat
  | [] => 0
  | x :: r => uptoBulkEntry x + uptoBulkEntries r
def uptoBulkEntry {H : Type} : Lit × DataW H → Nat
  | (.string bytes, d) => bytes.length + uptoBulk d + 1
  | (_, d) => uptoBulk d + 1
 end
def uptoSmall : (H : Type) → List (DataW H) → Bool := fun _ ds => decide (uptoBulkAll ds ≤ 1048576)
def OpenSpec.upto (s : _root_.Go.ChangeSpec) : _root_.Go.OpenSpec := { _root_.Go.OpenSpec.ofChange s with cond := some uptoSmall }

/-- 'pouchlaw12.SumSums', WHERE WHAT IT READS IS OF BULK AT MOST 1048576: true; the input reads as it did. -/
def sumSumsUptoRow : OpenClaim := { program := "ytpaiioipoibahaa", sum := "3bc8d6e580248b6e699ddb54b07f676328d7cafb3a898e9f3159b436b38cc5c8", func := "pouch/pouchlaw12.SumSums", spec := "sumSums", apart := false, narrowed := true }
def SumSumsUptoSaid : Prop := sumSumsUptoRow.holds Try.pinned (OpenSpec.upto sumSumsSpec)

/-- 'pouchlaw12.SumParts', WHERE WHAT IT READS IS OF BULK AT MOST 1048576: true; the input reads as it did. -/
def sumPartsUptoRow : OpenClaim := { program := "ytpaiioipoibahaa", sum := "3bc8d6e580248b6e699ddb54b07f676328d7cafb3a898e9f3159b436b38cc5c8", func := "pouch/pouchlaw12.SumParts", spec := "sumParts", apart := false, narrowed := true }
def SumPartsUptoSaid : Prop := sumPartsUptoRow.holds Try.pinned (OpenSpec.upto sumPartsSpec)

/-- 'pouchlaw11.BackoffNexts', WHERE WHAT IT READS IS OF BULK AT MOST 1048576: true; the input reads as it did. -/
def backoffNextsUptoRow : OpenClaim := { program := "ytpaiioipoibahaa", sum := "3bc8d6e580248b6e699ddb54b07f676328d7cafb3a898e9f3159b436b38cc5c8", func := "pouch/pouchlaw11.BackoffNexts", spec := "backoffNexts", apart := false, narrowed := true }
def BackoffNextsUptoSaid : Prop := backoffNextsUptoRow.holds Try.pinned (OpenSpec.upto backoffNextsSpec)

/-- 'pouchlaw11.BackoffAlls', WHERE WHAT IT READS IS OF BULK AT MOST 1048576: true; the input reads as it did. -/
def backoffAllsUptoRow : OpenClaim := { program := "ytpaiioipoibahaa", sum := "3bc8d6e580248b6e699ddb54b07f676328d7cafb3a898e9f3159b436b38cc5c8", func := "pouch/pouchlaw11.BackoffAlls", spec := "backoffAlls", apart := false, narrowed := true }
def BackoffAllsUptoSaid : Prop := backoffAllsUptoRow.holds Try.pinned (OpenSpec.upto backoffAllsSpec)

/-- 'pouchlaw8.BucketParts', WHERE WHAT IT READS IS OF BULK AT MOST 1048576: true; the input reads as it did. -/
def bucketPartsUptoRow : OpenClaim := { program := "ytpaiioipoibahaa", sum := "3bc8d6e580248b6e699ddb54b07f676328d7cafb3a898e9f3159b436b38cc5c8", func := "pouch/pouchlaw8.BucketParts", spec := "bucketParts", apart := false, narrowed := true }
def BucketPartsUptoSaid : Prop := bucketPartsUptoRow.holds Try.pinned (OpenSpec.upto bucketPartsSpec)

/-- 'pouchlaw8.BucketWaits', WHERE WHAT IT READS IS OF BULK AT MOST 1048576: true; the input reads as it did. -/
def bucketWaitsUptoRow : OpenClaim := { program := "ytpaiioipoibahaa", sum := "3bc8d6e580248b6e699ddb54b07f676328d7cafb3a898e9f3159b436b38cc5c8", func := "pouch/pouchlaw8.BucketWaits", spec := "bucketWaits", apart := false, narrowed := true }
def BucketWaitsUptoSaid : Prop := bucketWaitsUptoRow.holds Try.pinned (OpenSpec.upto bucketWaitsSpec)

/-- 'pouchlaw8.BucketRates', WHERE WHAT IT READS IS OF BULK AT MOST 1048576: true; the input reads as it did. -/
def bucketRatesUptoRow : OpenClaim := { program := "ytpaiioipoibahaa", sum := "3bc8d6e580248b6e699ddb54b07f676328d7cafb3a898e9f3159b436b38cc5c8", func := "pouch/pouchlaw8.BucketRates", spec := "bucketRates", apart := false, narrowed := true }
def BucketRatesUptoSaid : Prop := bucketRatesUptoRow.holds Try.pinned (OpenSpec.upto bucketRatesSpec)

/-- 'pouchlaw8.BucketExact', WHERE WHAT IT READS IS OF BULK AT MOST 1048576: true; the input reads as it did. -/
def bucketExactUptoRow : OpenClaim := { program := "ytpaiioipoibahaa", sum := "3bc8d6e580248b6e699ddb54b07f676328d7cafb3a898e9f3159b436b38cc5c8", func := "pouch/pouchlaw8.BucketExact", spec := "bucketExact", apart := false, narrowed := true }
def BucketExactUptoSaid : Prop := bucketExactUptoRow.holds Try.pinned (OpenSpec.upto bucketExactSpec)

/-- 'pouchlaw3.ReplyParses', WHERE WHAT IT READS IS OF BULK AT MOST 1048576: true; the input reads as it did. -/
def replyParsesUptoRow : OpenClaim := { program := "ytpaiioipoibahaa", sum := "3bc8d6e580248b6e699ddb54b07f676328d7cafb3a898e9f3159b436b38cc5c8", func := "pouch/pouchlaw3.ReplyParses", spec := "replyParses", unfollowed := true, recurses := true, apart := false, narrowed := true }
def ReplyParsesUptoSaid : Prop := replyParsesUptoRow.holds Try.pinned (OpenSpec.upto replyParsesSpec)

/-- 'pouchlaw3.ReplyWrongs', WHERE WHAT IT READS IS OF BULK AT MOST 1048576: true; the input reads as it did. -/
def replyWrongsUptoRow : OpenClaim := { program := "ytpaiioipoibahaa", sum := "3bc8d6e580248b6e699ddb54b07f676328d7cafb3a898e9f3159b436b38cc5c8", func := "pouch/pouchlaw3.ReplyWrongs", spec := "replyWrongs", unfollowed := true, recurses := true, apart := false, narrowed := true }
def ReplyWrongsUptoSaid : Prop := replyWrongsUptoRow.holds Try.pinned (OpenSpec.upto replyWrongsSpec)

end Rows
end Go.Proofs.Ytpaiioipoibahaa
