/- The table of types and functions, proved to be the code of the program; without conditions. -/
import Derived.Test.YtpaiioipoibahaaEngMc
import Derived.Test.YtpaiioipoibahaaTabA
set_option linter.all false
set_option linter.deprecated false
set_option maxRecDepth 1000000
set_option maxHeartbeats 4000000
namespace Go.Proofs.TabA
open Go Go.Eng
abbrev Sp := Nat → Option (List AV → Mem → T (AV × Mem))
noncomputable abbrev ev (S : Sp) (d : Nat) := evFun Try.prog (ttOf tts) S (fns false).get 1048576 d
abbrev iv (n : Int) : AV := .i .i64 n
noncomputable def S0 : Sp := fun _ => none
abbrev ag (l c f e d : Int) : AV := .agg [iv l, iv c, iv f, iv e, iv d]
abbrev ag0 : AV := ag 0 0 0 0 0
def mayB (l c f e d : Int) : Bool := decide (0 ≤ c ∧ c ≤ 1048576 ∧ 0 ≤ f ∧ f ≤ 1048576 ∧ 0 ≤ l ∧ l ≤ c ∧ 1 ≤ e ∧ e ≤ 1048576 ∧ 0 ≤ d ∧ d ≤ e - 1)
end Go.Proofs.TabA
