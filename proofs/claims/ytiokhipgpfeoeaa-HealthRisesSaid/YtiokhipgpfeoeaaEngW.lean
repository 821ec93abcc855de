/- Lemmas about the evaluator of the code. -/
import Derived.Test.YtiokhipgpfeoeaaEngV
set_option linter.all false
set_option linter.deprecated false
set_option autoImplicit false
namespace Go.Eng
open Go Go.RowKit

theorem evFun_open {P : Program} {tt : TT} {S : Nat → Option (List AV → Mem → T (AV × Mem))} {F : Nat → Option FI} {L d : Nat} {f : FuncId} {fi : FI} {args : List AV} {M : Mem} {Q : AV × Mem → Prop} {Qp : AV → Mem → Prop}
    (hS : S f = none) (hF : F f = some fi) (hn : Nat.ble args.length fi.n = true)
    (h : H ((evCode P tt (evFun P tt S F L d) args fi.keep L (Nat.pow 2 (Nat.mul 32 d)) fi.code (argTmps args 0) M).bind (evEnd M.next args tt fi)) Q Qp) :
    H (evFun P tt S F L (d + 1) f args M) Q Qp := by
  refine ⟨?_⟩
  show (@Option.rec (List AV → Mem → T (AV × Mem)) (fun _ => T (AV × Mem)) (onO (F f) fun fi => evBody P tt L (Nat.pow 2 (Nat.mul 32 d)) (evFun P tt S F L d) fi args M) (fun s => s args M) (S f)).holds Q Qp
  rw [hS, hF]
  show (T.br (Nat.ble args.length fi.n) (forceN M.next fun base => (evCode P tt (evFun P tt S F L d) args fi.keep L (Nat.pow 2 (Nat.mul 32 d)) fi.code (argTmps args 0) M).bind (evEnd base args tt fi)) .fail).holds Q Qp
  refine (H.tt hn ⟨?_⟩).out
  rw [forceN_eq]
  exact h.out

/-- A tree's end, as an end of a way. -/
noncomputable def endR {α : Type} (K : Res → T α) : Res → T (α ⊕ Stop) := fun r => (K r).bind fun a => .ret (.inl a)
theorem endR_ok {α : Type} {K : Res → T α} {Q : α → Prop} {Qp : AV → Mem → Prop} {G : Stop → Prop} (r : Res) (h : H (endR K r) (OkY Q G) Qp) : H (K r) Q Qp :=
  (H.of_bind h).mono fun a h => h.out

section
variable {P : Program} {tt : TT} {callF : FuncId → List AV → Mem → T (AV × Mem)} {roots : List AV} {keep : Keep} {L big : Nat}
/-- A loop, with what follows up to the next one. -/
theorem loop_run {α : Type} {c : Code} {base : Nat} {K : Res → T α} {KR : Res → T (α ⊕ Stop)} {Q : α → Prop} {Qp : AV → Mem → Prop} {G : Stop → Prop} (hz : keep.z = false) (Inv : Nat → St3 → Prop)
    (hK : ∀ r, H (KR r) (OkY Q G) Qp → H (K r) Q Qp)
    (step : ∀ m s, Inv m s → H ((evCode P tt callF roots keep L big c (cst keep.l s.1) (memL s.2.1 s.2.2)).bind (stepR roots keep base KR)) (OkS (fun s' => ∃ m', m' < m ∧ Inv m' s') (OkY Q G)) Qp) :
    ∀ m s, m < L → Inv m s → LoopGo P tt callF roots keep L big c base s K Q Qp := by
  refine loop_go hz Inv fun m s hi => ?_
  refine H.bind ((H.of_bind (step m s hi)).mono fun r hr => ?_)
  obtain ⟨x, st, M⟩ := r
  cases x with
  | normal =>
    have hr : H ((headV base roots keep st M).bind fun s => (.ret (.inl s) : T (St3 ⊕ (α ⊕ Stop)))) (OkS (fun s' => ∃ m', m' < m ∧ Inv m' s') (OkY Q G)) Qp := hr
    show H ((headV base roots keep st M).bind fun s => (.ret (.inl s) : T (St3 ⊕ α))) (OkS (fun s' => ∃ m', m' < m ∧ Inv m' s') Q) Qp
    exact H.bind ((H.of_bind hr).mono fun s h => ⟨h.out⟩)
  | exit j =>
    have hr : H ((KR (.exit j, st, M)).bind fun y => (.ret (.inr y) : T (St3 ⊕ (α ⊕ Stop)))) (OkS (fun s' => ∃ m', m' < m ∧ Inv m' s') (OkY Q G)) Qp := hr
    show H ((K (.exit j, st, M)).bind fun y => (.ret (.inr y) : T (St3 ⊕ α))) (OkS (fun s' => ∃ m', m' < m ∧ Inv m' s') Q) Qp
    exact H.bind ((hK _ ((H.of_bind hr).mono fun y h => h.out)).mono fun y h => ⟨h⟩)
  | ret =>
    have hr : H ((KR (.ret, st, M)).bind fun y => (.ret (.inr y) : T (St3 ⊕ (α ⊕ Stop)))) (OkS (fun s' => ∃ m', m' < m ∧ Inv m' s') (OkY Q G)) Qp := hr
    show H ((K (.ret, st, M)).bind fun y => (.ret (.inr y) : T (St3 ⊕ α))) (OkS (fun s' => ∃ m', m' < m ∧ Inv m' s') Q) Qp
    exact H.bind ((hK _ ((H.of_bind hr).mono fun y h => h.out)).mono fun y h => ⟨h⟩)
end
end Go.Eng
