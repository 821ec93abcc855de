/- Lemmas about the evaluator of the code. -/
import Derived.Test.YtiokhipgpfeoeaaEng9
set_option linter.all false
set_option linter.deprecated false
set_option autoImplicit false
namespace Go.Eng
open Go Go.RowKit

/-! ## Tables -/
inductive Tr (α : Type) where
  | none
  | leaf (k : Nat) (x : α)
  | node (k : Nat) (l r : Tr α)
namespace Tr
noncomputable def get {α : Type} (t : Tr α) (i : Nat) : Option α := @Tr.rec α (fun _ => Option α) Option.none (fun k x => bif2 (Nat.beq k i) (some x) Option.none) (fun k _ _ l r => bif2 (Nat.blt i k) l r) t
def All {α : Type} (p : Nat → α → Prop) : Tr α → Prop
  | .none => True
  | .leaf k x => p k x
  | .node _ l r => All p l ∧ All p r
theorem All.get {α : Type} {p : Nat → α → Prop} {t : Tr α} (h : t.All p) {i : Nat} {x : α} (hx : t.get i = some x) : p i x := by
  induction t with
  | none => exact absurd (show (Option.none : Option α) = some x from hx) (by simp)
  | leaf k y =>
    have h2 : bif2 (Nat.beq k i) (some y) Option.none = some x := hx
    rw [bif2_eq] at h2
    clear hx
    split at h2
    · rename_i e
      have := Nat.eq_of_beq_eq_true e
      subst this; cases h2; exact h
    · cases h2
  | node k l r ihl ihr =>
    have hx : bif2 (Nat.blt i k) (l.get i) (r.get i) = some x := hx
    rw [bif2_eq] at hx
    split at hx
    · exact ihl h.1 hx
    · exact ihr h.2 hx
end Tr

def badTI : TI := ⟨.bad, 0, 0, [], .other, false, []⟩
noncomputable def ttOf (t : Tr TI) : TT := fun i => @Option.rec TI (fun _ => TI) badTI (fun x => x) (t.get i)
def mkU (P : Program) : TypeDesc → Und
  | .slice e => .sl e
  | .array n e => .arr n e
  | .struct fds => bif fds.toList.all (fun f => (P.info? f.type).isSome) then .st (fds.toList.map fun f => (f.offset, f.type, P.cellsOf f.type)) else .bad
  | .string => .str
  | .interface _ => .ifc
  | _ => .leaf
def mkK : TypeDesc → CK
  | .int k => .int k
  | .string => .str
  | .bool => .bool
  | .float .f64 => .flt
  | .pointer _ => .ptr
  | .map _ _ => .mp
  | .func _ _ _ => .fnc
  | _ => .other
def mkC (P : Program) (t : TypeId) : TypeDesc → Bool
  | .struct fds => fds.toList.all (fun f => !(f.name == "_")) && (!P.stoodInHeld t && !P.eqGuardType P.depth t)
  | _ => false
def mkTI (P : Program) (t : TypeId) (c : Bool) : TI :=
  match P.underlying t, P.info? t with
  | some d, some i =>
    match i.zero with
    | some z => bif z.cells.size == i.size then ⟨mkU P d, i.size, i.bytes, z.cells.toList.map lift1, mkK d, c && mkC P t d, []⟩ else badTI
    | none => badTI
  | _, _ => badTI
theorem mkTI_ok {P : Program} {t : TypeId} {ti : TI} (h : mkTI P t ti.cmp = { ti with kinds := [] }) (hb : ti.u ≠ .bad) : TIok P t ti := by
  unfold mkTI at h
  split at h
  · rename_i d i hd hi
    split at h
    · rename_i z hz
      cases hs : z.cells.size == i.size with
      | false => rw [hs] at h; exact (hb (congrArg TI.u h).symm).elim
      | true =>
        rw [hs] at h
        have hu : mkU P d = ti.u := congrArg TI.u h
        have h1 : i.size = ti.size := congrArg TI.size h
        have h2 : i.bytes = ti.bytes := congrArg TI.bytes h
        have h3 : z.cells.toList.map lift1 = ti.zero := congrArg TI.zero h
        have h4 : mkK d = ti.kind := congrArg TI.kind h
        have h5 : (ti.cmp && mkC P t d) = ti.cmp := congrArg TI.cmp h
        refine ⟨⟨i, z, hi, h1, h2, hz, h3, by rw [← h1]; simpa using hs⟩, ?_, ?_, ?_⟩
        · rw [← hu] at hb ⊢
          cases d <;> first | exact hd | (refine ⟨_, hd, ?_⟩; rfl) | skip
          · rename_i fds
            have e : mkU P (.struct fds) = bif fds.toList.all (fun f => (P.info? f.type).isSome) then .st (fds.toList.map fun f => (f.offset, f.type, P.cellsOf f.type)) else .bad := rfl
            rw [e] at hb ⊢
            cases hall : fds.toList.all (fun f => (P.info? f.type).isSome) with
            | false => rw [hall] at hb; exact (hb rfl).elim
            | true => exact ⟨fds, hd, rfl, fun f hf => List.all_eq_true.1 hall f hf⟩
          · exact ⟨_, hd⟩
        · rw [← h4]
          cases d with
          | float k => cases k <;> first | exact hd | trivial
          | pointer e => exact ⟨_, hd⟩
          | map k e => exact ⟨_, _, hd⟩
          | func a b c => exact ⟨_, _, _, hd⟩
          | _ => first | exact hd | trivial
        · intro hc
          rw [hc, Bool.true_and] at h5
          cases d with
          | struct fds =>
            obtain ⟨k1, k2⟩ := Bool.and_eq_true_iff.1 (show (fds.toList.all (fun f => !(f.name == "_")) && (!P.stoodInHeld t && !P.eqGuardType P.depth t)) = true from h5)
            obtain ⟨k3, k4⟩ := Bool.and_eq_true_iff.1 k2
            refine ⟨by simpa using k3, by simpa using k4, fun fds' hf f hm => ?_⟩
            rw [hd] at hf
            cases hf
            have := List.all_eq_true.1 k1 f hm
            simpa using this
          | _ => exact absurd h5 (by simp [mkC])
    · exact (hb (congrArg TI.u h).symm).elim
  · exact (hb (congrArg TI.u h).symm).elim
theorem ttOk_of {P : Program} {t : Tr TI} (h : t.All fun k x => mkTI P k x.cmp = { x with kinds := [] }) : TTok P (ttOf t) := by
  intro i hi
  unfold ttOf at hi ⊢
  cases e : t.get i with
  | none => rw [e] at hi; exact (hi rfl).elim
  | some x =>
    rw [e] at hi
    exact mkTI_ok (h.get e) hi

def fiOf (fn : Func) (keep : Keep) : FI := ⟨fn.ntmps, fn.body.getD .skip, fn.results.toList, keep⟩
def opOkB (P : Program) (n : Nat) (o : Oper) : Bool :=
  (match o.dst with | some d => Nat.blt d n | none => true) && (match o.op with | .convert s _ _ => (P.underlying s).isSome | _ => true)
theorem opOkB_ok {P : Program} {n : Nat} {o : Oper} (h : opOkB P n o = true) : OpOk P n o := by
  unfold opOkB at h
  obtain ⟨h1, h2⟩ := Bool.and_eq_true_iff.1 h
  refine ⟨fun d hd => ?_, fun s d x hs => ?_⟩
  · rw [hd] at h1; exact Nat.le_of_ble_eq_true h1
  · rw [hs] at h2; exact Option.isSome_iff_exists.1 h2
noncomputable def codeOkB (P : Program) (n : Nat) (c : Code) : Bool :=
  @Code.rec (fun _ => Bool) true (fun _ ops _ => ops.toList.all (opOkB P n)) (fun _ _ a b => a && b) (fun _ _ _ a b => a && b) (fun _ _ a => a) (fun _ a => a)
    (fun _ _ _ _ _ _ => false) (fun _ => true) (fun _ _ => false) (fun _ => false) (fun _ => false) true (fun _ => false) c
theorem codeOkB_ok {P : Program} {n : Nat} (c : Code) (h : codeOkB P n c = true) : CodeOk P n c := by
  induction c with
  | region id ops draw => exact fun o ho => opOkB_ok (List.all_eq_true.1 h o ho)
  | seq a b iha ihb => obtain ⟨h1, h2⟩ := Bool.and_eq_true_iff.1 h; exact ⟨iha h1, ihb h2⟩
  | cond c a b iha ihb => obtain ⟨h1, h2⟩ := Bool.and_eq_true_iff.1 h; exact ⟨iha h1, ihb h2⟩
  | block id a ih => exact ih h
  | loop a ih => exact ih h
  | _ => first | trivial | cases h
theorem fiOk_of {P : Program} {f : FuncId} {fn : Func} (keep : Keep) (h : P.funcs[f]? = some fn) (hb : (fn.body.isSome && codeOkB P fn.ntmps (fn.body.getD .skip)) && !(fn.name == "runtime.NumGoroutine") = true) : FIok P f (fiOf fn keep) := by
  obtain ⟨hb, hn⟩ := Bool.and_eq_true_iff.1 hb
  obtain ⟨hs, hc⟩ := Bool.and_eq_true_iff.1 hb
  refine ⟨fn, h, ?_, rfl, rfl, by simpa using hn, codeOkB_ok _ hc⟩
  obtain ⟨c, hc⟩ := Option.isSome_iff_exists.1 hs
  simp [fiOf, hc]
theorem fOk_of {P : Program} {t : Tr FI} (h : t.All (FIok P)) : FOk P t.get := fun _ _ hx => h.get hx
end Go.Eng
