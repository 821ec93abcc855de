/- Lemmas about the evaluator of the code. -/
import Derived.Test.YtiokhipgpfeoeaaEngX
set_option linter.all false
set_option linter.deprecated false
set_option autoImplicit false
namespace Go.Eng
open Go Go.RowKit

/-! ## A proof about a tree, way by way -/
namespace T
noncomputable def skip {α : Type} (n : Nat) : T α → T α :=
  @Nat.rec (fun _ => T α → T α) (fun x => x) (fun _ ih x => @T.casesOn α (fun _ => T α) x .ret (fun b t e => ih (@Bool.rec (fun _ => T α) e t b)) .pan (fun b t => ih (@Bool.rec (fun _ => T α) .fail t b)) .fail) n
noncomputable def condE {α : Type} (x : T α) : Option Bool := @T.casesOn α (fun _ => Option Bool) x (fun _ => none) (fun b _ _ => some b) (fun _ _ => none) (fun _ _ => none) none
noncomputable def child {α : Type} (d : Bool) (x : T α) : T α := @T.casesOn α (fun _ => T α) x (fun _ => .fail) (fun _ t e => @Bool.rec (fun _ => T α) e t d) (fun _ _ => .fail) (fun _ _ => .fail) .fail
noncomputable def leafE {α β : Type} (f : α → β) (x : T α) : Option β := @T.casesOn α (fun _ => Option β) x (fun a => some (f a)) (fun _ _ _ => none) (fun _ _ => none) (fun _ _ => none) none
end T
section
variable {α β : Type} {Qp : AV → Mem → Prop}
theorem H.skip {Q : α → Prop} (n : Nat) : ∀ {x : T α}, H (T.skip n x) Q Qp → H x Q Qp := by
  induction n with
  | zero => intro x h; exact h
  | succ n ih =>
    intro x h
    cases x with
    | ret a => exact h
    | br b t e =>
      have h : H (T.skip n (@Bool.rec (fun _ => T α) e t b)) Q Qp := h
      have := ih h
      cases b with
      | true => exact H.tt rfl this
      | false => exact H.ff rfl this
    | pan x M => exact h
    | ck b t =>
      have h : H (T.skip n (@Bool.rec (fun _ => T α) .fail t b)) Q Qp := h
      have := ih h
      cases b with
      | true => exact H.ck rfl this
      | false => exact this.out.elim
    | fail => exact h
theorem H.sp {Q : α → Prop} {x : T α} (n : Nat) (c : Bool) (hc : T.condE (T.skip n x) = some c) (ht : c = true → H (T.child true (T.skip n x)) Q Qp) (hf : c = false → H (T.child false (T.skip n x)) Q Qp) : H x Q Qp := by
  refine H.skip n ?_
  revert hc ht hf
  generalize T.skip n x = y
  intro hc ht hf
  cases y with
  | br b t e =>
    obtain rfl : b = c := Option.some.inj hc
    exact H.br ht hf
  | _ => cases hc
/-- By a Bool that the condition is told by. -/
theorem H.sb {Q : α → Prop} {x : T α} (n : Nat) (φ : Bool → Bool) (b : Bool) (hc : T.condE (T.skip n x) = some (φ b)) (ht : b = true → H (T.child (φ true) (T.skip n x)) Q Qp) (hf : b = false → H (T.child (φ false) (T.skip n x)) Q Qp) : H x Q Qp := by
  cases b with
  | true => exact H.sp n _ hc (fun e => by have := ht rfl; rwa [e] at this) (fun e => by have := ht rfl; rwa [e] at this)
  | false => exact H.sp n _ hc (fun e => by have := hf rfl; rwa [e] at this) (fun e => by have := hf rfl; rwa [e] at this)
theorem H.kb {Q : α → Prop} {x : T α} (n : Nat) (φ : Bool → Bool) {b d : Bool} (hb : b = d) (hc : T.condE (T.skip n x) = some (φ b)) (h : H (T.child (φ d) (T.skip n x)) Q Qp) : H x Q Qp := by
  subst hb
  exact H.sp n _ hc (fun e => by rwa [e] at h) (fun e => by rwa [e] at h)
/-- By a statement that is decided. -/
theorem H.sd {Q : α → Prop} {x : T α} (n : Nat) (φ : Bool → Bool) (p : Prop) [i : Decidable p] (hc : T.condE (T.skip n x) = some (φ (@decide p i))) (ht : p → H (T.child (φ true) (T.skip n x)) Q Qp) (hf : ¬ p → H (T.child (φ false) (T.skip n x)) Q Qp) : H x Q Qp :=
  H.sb n φ _ hc (fun e => ht (of_decide_eq_true e)) (fun e => hf (of_decide_eq_false e))
theorem H.kd {Q : α → Prop} {x : T α} (n : Nat) (φ : Bool → Bool) (p : Prop) [i : Decidable p] (hp : p) (hc : T.condE (T.skip n x) = some (φ (@decide p i))) (h : H (T.child (φ true) (T.skip n x)) Q Qp) : H x Q Qp :=
  H.kb n φ (decide_eq_true hp) hc h
theorem H.nd {Q : α → Prop} {x : T α} (n : Nat) (φ : Bool → Bool) (p : Prop) [i : Decidable p] (hp : ¬ p) (hc : T.condE (T.skip n x) = some (φ (@decide p i))) (h : H (T.child (φ false) (T.skip n x)) Q Qp) : H x Q Qp :=
  H.kb n φ (decide_eq_false hp) hc h
/-- By two numbers that are the same, or not. -/
theorem H.se {Q : α → Prop} {x : T α} (n : Nat) (φ : Bool → Bool) (a b : Int) (hc : T.condE (T.skip n x) = some (φ (a == b))) (ht : a = b → H (T.child (φ true) (T.skip n x)) Q Qp) (hf : a ≠ b → H (T.child (φ false) (T.skip n x)) Q Qp) : H x Q Qp :=
  H.sb n φ _ hc (fun e => ht (by simpa using e)) (fun e => hf (by simpa using e))
theorem H.ke {Q : α → Prop} {x : T α} (n : Nat) (φ : Bool → Bool) (a b : Int) (hp : a = b) (hc : T.condE (T.skip n x) = some (φ (a == b))) (h : H (T.child (φ true) (T.skip n x)) Q Qp) : H x Q Qp :=
  H.kb n φ (b := a == b) (by simpa using hp) hc h
theorem H.ne {Q : α → Prop} {x : T α} (n : Nat) (φ : Bool → Bool) (a b : Int) (hp : a ≠ b) (hc : T.condE (T.skip n x) = some (φ (a == b))) (h : H (T.child (φ false) (T.skip n x)) Q Qp) : H x Q Qp :=
  H.kb n φ (b := a == b) (by simpa using hp) hc h
/-- By a number that is less, or not. -/
theorem H.sl {Q : α → Prop} {x : T α} (n : Nat) (φ : Bool → Bool) (a b : Nat) (hc : T.condE (T.skip n x) = some (φ (Nat.blt a b))) (ht : a < b → H (T.child (φ true) (T.skip n x)) Q Qp) (hf : ¬ a < b → H (T.child (φ false) (T.skip n x)) Q Qp) : H x Q Qp :=
  H.sb n φ _ hc (fun e => ht (by simpa [Nat.blt_eq] using e)) (fun e => hf (fun h => by rw [(by simpa [Nat.blt_eq] using h : Nat.blt a b = true)] at e; cases e))
theorem H.kl {Q : α → Prop} {x : T α} (n : Nat) (φ : Bool → Bool) (a b : Nat) (hp : a < b) (hc : T.condE (T.skip n x) = some (φ (Nat.blt a b))) (h : H (T.child (φ true) (T.skip n x)) Q Qp) : H x Q Qp :=
  H.kb n φ (b := Nat.blt a b) (by simpa [Nat.blt_eq] using hp) hc h
theorem H.nl {Q : α → Prop} {x : T α} (n : Nat) (φ : Bool → Bool) (a b : Nat) (hp : ¬ a < b) (hc : T.condE (T.skip n x) = some (φ (Nat.blt a b))) (h : H (T.child (φ false) (T.skip n x)) Q Qp) : H x Q Qp :=
  H.kb n φ (b := Nat.blt a b) (by cases e : Nat.blt a b with | false => rfl | true => exact absurd (by simpa [Nat.blt_eq] using e) hp) hc h
theorem H.lf {Q : β → Prop} {x : T α} {f : α → β} (n : Nat) (a : β) (hc : T.leafE f (T.skip n x) = some a) (hq : Q a) : H x (fun y => Q (f y)) Qp := by
  refine H.skip n ?_
  revert hc
  generalize T.skip n x = y
  intro hc
  cases y with
  | ret b =>
    obtain rfl : f b = a := Option.some.inj hc
    exact H.ret hq
  | _ => cases hc
end
end Go.Eng
