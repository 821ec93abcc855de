/- Lemmas about the evaluator of the code. -/
import Derived.Test.YtiokhipgpfeoeaaPlnH
set_option linter.all false
set_option linter.deprecated false
set_option maxRecDepth 1000000
set_option maxHeartbeats 4000000
namespace Go.Proofs.TabH
open Go Go.Eng
theorem t9 (b0 b1 b2 : Int) (s : Nat) (c sc : Int) (nl  : Bool) (n  cap  : Nat) (l0 l1 l2 l3 l5 : List Int) (l4 : List Bool) : H (evFun Try.prog (ttOf tts) S8p (fns true).get 1048576 7 9 [.agg [iv b0, iv b1, iv b2, fv s, iv c, .i .u64 sc, .sl 0 0 n (some cap)]] (memL 1 [.ro nl n [.ci .i64 l0, .ci .i64 l1, .ci .i64 l2, .ci .i64 l3, .cb l4, .ci .u64 l5]])) (fun x => x.1 = .b true) (fun _ _ => False) :=
  H.lf (f := Prod.fst) (Q := fun x => x = AV.b true) 30000 (AV.b true) (by kernel_rfl) rfl
end Go.Proofs.TabH
