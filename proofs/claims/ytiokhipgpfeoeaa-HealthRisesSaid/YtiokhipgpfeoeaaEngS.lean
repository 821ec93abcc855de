/- Lemmas about the evaluator of the code. -/
import Derived.Test.YtiokhipgpfeoeaaEngR
set_option linter.all false
set_option linter.deprecated false
set_option autoImplicit false
namespace Go.Eng
open Go Go.RowKit

/-! ## Contracts of plain values -/
def plain0 : AV → Bool
  | .i _ _ => true
  | .b _ => true
  | .s _ => true
  | .v _ => true
  | _ => false
def plain1 : AV → Bool
  | .agg l => l.all plain0
  | x => plain0 x
def plainA : AV → Bool
  | .tup l => l.all plain1
  | x => plain1 x
theorem plain0_rel {φ φ' : Phi} {x : AV} {v : Value} (hp : plain0 x = true) (h : AVRel φ x v) : AVRel φ' x v := by
  cases h <;> first | exact .i _ _ | exact .b _ | exact .s _ | exact .v _ | cases hp
theorem plain0s_rel {φ φ' : Phi} (l : List AV) : ∀ {m : List Value}, l.all plain0 = true → AVsRel φ l m → AVsRel φ' l m := by
  induction l with
  | nil => intro m _ h; cases h; exact .nil
  | cons x l ih =>
    intro m hp h
    obtain ⟨h1, h2⟩ := Bool.and_eq_true_iff.1 (show (plain0 x && l.all plain0) = true from hp)
    cases h with | cons h t => exact .cons (plain0_rel h1 h) (ih h2 t)
theorem plain1_rel {φ φ' : Phi} {x : AV} {v : Value} (hp : plain1 x = true) (h : AVRel φ x v) : AVRel φ' x v := by
  cases h with
  | agg l a h => exact .agg l a (plain0s_rel l hp h)
  | i => exact .i _ _
  | b => exact .b _
  | s => exact .s _
  | v => exact .v _
  | _ => cases hp
theorem plain1s_rel {φ φ' : Phi} (l : List AV) : ∀ {m : List Value}, l.all plain1 = true → AVsRel φ l m → AVsRel φ' l m := by
  induction l with
  | nil => intro m _ h; cases h; exact .nil
  | cons x l ih =>
    intro m hp h
    obtain ⟨h1, h2⟩ := Bool.and_eq_true_iff.1 (show (plain1 x && l.all plain1) = true from hp)
    cases h with | cons h t => exact .cons (plain1_rel h1 h) (ih h2 t)
theorem plainA_rel {φ φ' : Phi} {x : AV} {v : Value} (hp : plainA x = true) (h : AVRel φ x v) : AVRel φ' x v := by
  cases h with
  | tup l a h => exact .tup l a (plain1s_rel l hp h)
  | agg l a h => exact .agg l a (plain0s_rel l hp h)
  | i => exact .i _ _
  | b => exact .b _
  | s => exact .s _
  | v => exact .v _
  | _ => cases hp

/-- What a call leaves as it was, of a memory that it isn't told. -/
theorem frame0 {N : Nat} {φ φ' : Phi} {M M' : Mem} {w w' : World} (hr : Rep N φ M w) (he : Ext (fun _ => none) mem0 w φ' M' w') : Rep N φ M w' ∧ Ext φ M w φ M w' := by
  have hk : ∀ b, b < w.heap.size → w'.heap[b]? = w.heap[b]? := fun b hb => he.keep b hb fun id p _ ho => ho.elim
  refine ⟨⟨fun id => (hr.objs id).step (.refl _) (fun b hb => hk b (Nat.lt_of_lt_of_le hb hr.size)) (fun ho p hp => hk _ (hr.lt id p ho hp)), hr.sep, hr.high, hr.fresh, Nat.le_trans hr.size he.size⟩,
    ⟨.refl _, fun _ _ => rfl, Nat.le_refl _, rfl, he.os, he.tape, he.output, he.size, fun b hb _ => hk b hb, fun id p h1 h2 _ => ⟨id, p, h1, h2, rfl, fun h => h⟩⟩⟩

theorem Option_orElse_sOk {P : Program} {N : Nat} {S1 S2 : Nat → Option (List AV → Mem → T (AV × Mem))} (h1 : SOk P N S1) (h2 : SOk P N S2) : SOk P N (fun f => match S1 f with | some s => some s | none => S2 f) := by
  intro f s hs
  cases e : S1 f with
  | some s' => simp only [e] at hs; cases hs; exact h1 f _ e
  | none => simp only [e] at hs; exact h2 f s hs
end Go.Eng
