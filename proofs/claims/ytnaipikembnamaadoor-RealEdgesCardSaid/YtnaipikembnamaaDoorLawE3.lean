/- A law walked through by the evaluator, for all columns that its argument may have. -/
import Derived.Test.YtnaipikembnamaaDoorSetE
set_option linter.all false
set_option linter.deprecated false
set_option maxRecDepth 1000000
set_option maxHeartbeats 0
namespace Go.Proofs.TabE
open Go Go.Eng
/-- RealEdges: its input is asked for its length alone. -/
theorem realEdges_law (a : Bool) (n c : Nat) (x : List Col) : H (et Se 12 3 [.sl 0 0 n (some c)] (memL 1 [.ro a n x])) (fun x => x.1 = .b true) (fun _ _ => False) :=
  H.lf (Q := fun v : AV => v = .b true) (f := Prod.fst) 60000 (AV.b true) (by kernel_rfl) rfl
end Go.Proofs.TabE
