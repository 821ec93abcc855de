/- A law walked through by the evaluator, for all columns that its argument may have. -/
import Derived.Test.YtnkglgcfemkibaaBaseC
set_option linter.all false
set_option linter.deprecated false
set_option maxRecDepth 1000000
set_option maxHeartbeats 0
namespace Go.Proofs.TabC
open Go Go.Eng
theorem law3 (nl nl2 : Bool) (n n2 cap cap2 : Nat) (c1 c2 : List Col) : H (ev Sn 9 3 [.agg [.sl 0 0 n (some cap), .sl 1 0 n2 (some cap2)]] (memL 2 [.ro nl n c1, .ro nl2 n2 c2])) (fun x => x.1 = .b true) (fun _ _ => False) :=
  H.lf (Q := fun v : AV => v = .b true) (f := Prod.fst) 2000000 (AV.b true) (by kernel_rfl) rfl
end Go.Proofs.TabC
