/- A tree of ways, told by what its conditions are said to be; without conditions. -/
import Derived.Test.YthfdfjkmccbikaaDoorEngMd
set_option linter.all false
set_option linter.deprecated false
set_option autoImplicit false
namespace Go.Eng
open Go Go.RowKit
/-! ## A tree by what its conditions are said to be -/
namespace T
/-- A condition that is said. -/
noncomputable def atBr {α : Type} (y : T α) (d : Bool) (k : T α → Prop) : Prop := @T.casesOn α (fun _ => Prop) y (fun _ => False) (fun b t e => b = d ∧ k (@Bool.rec (fun _ => T α) e t d)) (fun _ _ => False) (fun _ _ => False) False
noncomputable def atRet {α : Type} (Q : α → Prop) (y : T α) : Prop := @T.casesOn α (fun _ => Prop) y Q (fun _ _ _ => False) (fun _ _ => False) (fun _ _ => False) False
end T
/-- The tree's conditions: so many are told, then one is said; behind the last one so many are told. -/
noncomputable def orc {α : Type} (Q : α → Prop) (l : List (Nat × Bool)) (n : Nat) : T α → Prop :=
  @List.rec (Nat × Bool) (fun _ => T α → Prop) (fun x => T.atRet Q (T.skip n x)) (fun p _ ih x => T.atBr (T.skip p.1 x) p.2 ih) l
theorem orc_ok {α : Type} {Q : α → Prop} {Qp : AV → Mem → Prop} (l : List (Nat × Bool)) (n : Nat) : ∀ (x : T α), orc Q l n x → H x Q Qp := by
  induction l with
  | nil =>
    intro x h
    refine H.skip n ?_
    have h : T.atRet Q (T.skip n x) := h
    revert h
    generalize T.skip n x = y
    intro h
    cases y with
    | ret a => exact H.ret h
    | _ => exact h.elim
  | cons p l ih =>
    intro x h
    refine H.skip p.1 ?_
    have h : T.atBr (T.skip p.1 x) p.2 (orc Q l n) := h
    revert h
    generalize T.skip p.1 x = y
    intro h
    cases y with
    | br b t e =>
      obtain ⟨h1, h2⟩ := h
      have h2 : orc Q l n (@Bool.rec (fun _ => T α) e t p.2) := h2
      have := ih _ h2
      revert this
      cases hp : p.2 with
      | true => intro this; exact H.tt (h1.trans hp) this
      | false => intro this; exact H.ff (h1.trans hp) this
    | _ => exact h.elim
end Go.Eng
