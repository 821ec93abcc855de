/- A law walked through by the evaluator, for all columns that its argument may have. -/
import Derived.Test.YtpaiioipoibahaaRepP
set_option linter.all false
set_option linter.deprecated false
set_option maxRecDepth 1000000
set_option maxHeartbeats 0
namespace Go.Proofs.TabP
open Go Go.Eng
theorem lawP1 (nl : Bool) (n cap : Nat) (c1 : List Col) : H (ev Sp0 9 12 [.sl 0 0 n (some cap)] (memL 1 [.ro nl n c1])) (fun x => x.1 = .b true) (fun _ _ => False) :=
  H.lf (Q := fun v : AV => v = .b true) (f := Prod.fst) 20000 (AV.b true) (by kernel_rfl) rfl
end Go.Proofs.TabP
