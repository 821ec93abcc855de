/- Lemmas about the evaluator of the code. -/
import Derived.Test.YtiokhipgpfeoeaaEngQ
set_option linter.all false
set_option linter.deprecated false
set_option autoImplicit false
namespace Go.Eng
open Go Go.RowKit

/-- Two parts of code. -/
theorem seq_H {P : Program} {tt : TT} {callF : FuncId → List AV → Mem → T (AV × Mem)} {roots : List AV} {keep : Keep} {L big : Nat} {a b : Code} {Q : Res → Prop} {Qp : AV → Mem → Prop} {st : Tmps} {M : Mem}
    (h : H (evCode P tt callF roots keep L big a st M) (fun r => H (onX r (evCode P tt callF roots keep L big b) fun j => .ret (.exit j, r.2)) Q Qp) Qp) : H (evCode P tt callF roots keep L big (.seq a b) st M) Q Qp := H.bind h
theorem block_H {P : Program} {tt : TT} {callF : FuncId → List AV → Mem → T (AV × Mem)} {roots : List AV} {keep : Keep} {L big : Nat} {id : Nat} {a : Code} {Q : Res → Prop} {Qp : AV → Mem → Prop} {st : Tmps} {M : Mem}
    (h : H (evCode P tt callF roots keep L big a st M) (fun r => H (onX r (fun st M => .ret (.normal, st, M)) fun j => bif2 (Nat.beq j id) (.ret (.normal, r.2)) (.ret (.exit j, r.2))) Q Qp) Qp) : H (evCode P tt callF roots keep L big (.block id a) st M) Q Qp := H.bind h
end Go.Eng
