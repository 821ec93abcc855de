/- Lemmas about the evaluator of the code. -/
import Derived.Test.YtiokhipgpfeoeaaEngT
set_option linter.all false
set_option linter.deprecated false
set_option autoImplicit false
namespace Go.Eng
open Go Go.RowKit

/-! ## Steps of a proof about a tree -/
structure H {α : Type} (x : T α) (Q : α → Prop) (Qp : AV → Mem → Prop) : Prop where
  out : x.holds Q Qp
theorem H.br {α : Type} {b : Bool} {t e : T α} {Q : α → Prop} {Qp : AV → Mem → Prop} (h : b = true → H t Q Qp) (h' : b = false → H e Q Qp) : H (T.br b t e) Q Qp := ⟨fun e => (h e).out, fun e => (h' e).out⟩
theorem H.tt {α : Type} {b : Bool} {t e : T α} {Q : α → Prop} {Qp : AV → Mem → Prop} (hb : b = true) (h : H t Q Qp) : H (T.br b t e) Q Qp := ⟨fun _ => h.out, fun h' => (by rw [hb] at h'; cases h')⟩
theorem H.ff {α : Type} {b : Bool} {t e : T α} {Q : α → Prop} {Qp : AV → Mem → Prop} (hb : b = false) (h : H e Q Qp) : H (T.br b t e) Q Qp := ⟨fun h' => (by rw [hb] at h'; cases h'), fun _ => h.out⟩
theorem H.ck {α : Type} {b : Bool} {t : T α} {Q : α → Prop} {Qp : AV → Mem → Prop} (hb : b = true) (h : H t Q Qp) : H (T.ck b t) Q Qp := ⟨⟨hb, h.out⟩⟩
theorem H.ret {α : Type} {a : α} {Q : α → Prop} {Qp : AV → Mem → Prop} (h : Q a) : H (T.ret a) Q Qp := ⟨h⟩
theorem H.pan {α : Type} {x : AV} {M : Mem} {Q : α → Prop} {Qp : AV → Mem → Prop} (h : Qp x M) : H (T.pan x M : T α) Q Qp := ⟨h⟩
theorem H.mono {α : Type} {x : T α} {Q Q' : α → Prop} {Qp : AV → Mem → Prop} (h : H x Q Qp) (hq : ∀ a, Q a → Q' a) : H x Q' Qp := ⟨T.holds_mono h.out hq fun _ _ h => h⟩
theorem H.bind {α β : Type} {x : T α} {f : α → T β} {Q : β → Prop} {Qp : AV → Mem → Prop} (h : H x (fun a => H (f a) Q Qp) Qp) : H (x.bind f) Q Qp := ⟨by rw [T.holds_bind]; exact T.holds_mono h.out (fun _ h => h.out) fun _ _ h => h⟩
/-- The end of a function's code. -/
structure EndOk (tt : TT) (res : List ResultVar) (M : Mem) (Q : AV × Mem → Prop) (Qp : AV → Mem → Prop) (x : Res) : Prop where
  out : H (@X.casesOn (fun _ => T (List AV × Mem)) x.1 (evRes tt x.2.1 res x.2.2) (fun _ => .fail) (evRes tt x.2.1 res x.2.2)) (fun y => y.2 = M ∧ Q (single (y.1, M))) Qp

theorem compact_same {β : Type} (vals : List AV) (M : Mem) (k : (AV → AV) → Mem → T β) : compact M.next vals M k = k (fun x => x) M := by
  unfold compact
  rw [bif2_eq, if_pos (Nat.beq_refl _)]
theorem mapL_id (l : List AV) : mapL (fun x => x) l = l := by rw [mapL_eq]; simp

/-- A function that lays nothing. -/
theorem evFun_code {P : Program} {tt : TT} {S : Nat → Option (List AV → Mem → T (AV × Mem))} {F : Nat → Option FI} {L d : Nat} {f : FuncId} {fi : FI} {args : List AV} {M : Mem} {Q : AV × Mem → Prop} {Qp : AV → Mem → Prop}
    (hS : S f = none) (hF : F f = some fi) (hn : Nat.ble args.length fi.n = true)
    (h : H (evCode P tt (evFun P tt S F L d) args fi.keep L (Nat.pow 2 (Nat.mul 32 d)) fi.code (argTmps args 0) M) (EndOk tt fi.res M Q Qp) Qp) :
    H (evFun P tt S F L (d + 1) f args M) Q Qp := by
  refine ⟨?_⟩
  show (@Option.rec (List AV → Mem → T (AV × Mem)) (fun _ => T (AV × Mem)) (onO (F f) fun fi => evBody P tt L (Nat.pow 2 (Nat.mul 32 d)) (evFun P tt S F L d) fi args M) (fun s => s args M) (S f)).holds Q Qp
  rw [hS, hF]
  show (T.br (Nat.ble args.length fi.n) (forceN M.next fun base => (evCode P tt (evFun P tt S F L d) args fi.keep L (Nat.pow 2 (Nat.mul 32 d)) fi.code (argTmps args 0) M).bind (evEnd base args tt fi)) .fail).holds Q Qp
  refine (H.tt hn ⟨?_⟩).out
  rw [forceN_eq, T.holds_bind]
  refine T.holds_mono h.out (fun x hx => ?_) fun _ _ h => h
  have key : H (evRes tt x.2.1 fi.res x.2.2) (fun y => y.2 = M ∧ Q (single (y.1, M))) Qp → ((evRes tt x.2.1 fi.res x.2.2).bind (shutF fi.keep.z M.next args)).holds Q Qp := by
    intro hx
    rw [T.holds_bind]
    refine T.holds_mono hx.out (fun y hy => ?_) fun _ _ h => h
    obtain ⟨h1, h2⟩ := hy
    rw [shutF_eq, h1, compact_same, mapL_id]
    exact h2
  obtain ⟨x1, x2, x3⟩ := x
  cases x1 with
  | normal => exact key hx.out
  | ret => exact key hx.out
  | exit j => exact hx.out.out.elim

/-- Contracts out of a tree that they follow from. -/
theorem sOk_of {P : Program} {tt : TT} (tok : TTok P tt) {N : Nat} {S0 S : Nat → Option (List AV → Mem → T (AV × Mem))} (h0 : SOk P N S0) {F : Nat → Option FI} (hF : FOk P F) (hmix : P.follows .mixedOrders = true) {L d : Nat}
    (h : ∀ f s, S f = some s → ∀ args M Q Qp, (s args M).holds Q Qp → H (evFun P tt S0 F L d f args M) Q Qp) : SOk P N S := by
  intro f s hs args M Q Qp hq
  exact evFun_ok tok h0 hF hmix d f args M Q Qp (h f s hs args M Q Qp hq).out
theorem sOk_none (P : Program) (N : Nat) : SOk P N (fun _ => none) := fun f s h => by cases h

/-- A contract of plain values. -/
noncomputable def pureS (g : List AV → Option AV) : List AV → Mem → T (AV × Mem) := fun args M => onO (g args) fun v => .ret (v, M)
theorem pureS_ok {g : List AV → Option AV} {args : List AV} {M : Mem} {Q : AV × Mem → Prop} {Qp : AV → Mem → Prop} (h : (pureS g args M).holds Q Qp) : ∃ v, g args = some v ∧ Q (v, M) := onO_ok h
end Go.Eng
