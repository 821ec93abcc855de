/- Lemmas about the evaluator of the code. -/
import Derived.Test.YtiokhipgpfeoeaaEngS
import Derived.KernelRfl
import Derived.Laws.Externs
set_option linter.all false
set_option linter.deprecated false
set_option autoImplicit false
namespace Go.Eng
open Go Go.RowKit

/-! ## What a tree comes to, along the ways that are told -/
noncomputable def T.runV {α β : Type} (f : α → β) (x : T α) : Option β :=
  @T.rec α (fun _ => Option β) (fun a => some (f a)) (fun b _ _ t e => @Bool.rec (fun _ => Option β) e t b) (fun _ _ => none) (fun b _ t => @Bool.rec (fun _ => Option β) none t b) none x
theorem T.runV_holds {α β : Type} {f : α → β} {b : β} {Qp : AV → Mem → Prop} (x : T α) (h : x.runV f = some b) : x.holds (fun a => f a = b) Qp := by
  induction x with
  | ret a => exact Option.some.inj h
  | br c t e iht ihe =>
    cases c with
    | true => exact ⟨fun _ => iht h, fun h => by cases h⟩
    | false => exact ⟨fun h => by (cases h), fun _ => ihe h⟩
  | pan => cases h
  | ck c t ih =>
    cases c with
    | true => exact ⟨rfl, ih h⟩
    | false => cases h
  | fail => cases h
theorem H.run {α β : Type} {x : T α} {f : α → β} {v : Option β} {Q : β → Prop} {Qp : AV → Mem → Prop} (h : x.runV f = v) (hq : ∃ b, v = some b ∧ Q b) : H x (fun a => Q (f a)) Qp := by
  obtain ⟨b, hb, hq⟩ := hq
  refine ⟨T.holds_mono (T.runV_holds x (h.trans hb)) (fun a (ha : f a = b) => ?_) fun _ _ h => h⟩
  show Q (f a)
  rw [ha]; exact hq
/-- The contract of a function of plain values, as a tree. -/
noncomputable def treeS (g : List AV → T AV) : List AV → Mem → T (AV × Mem) := fun args M => (T.nopan (g args)).bind fun v => .ret (v, M)
theorem sOk_ctr {P : Program} {tt : TT} (tok : TTok P tt) {F : Nat → Option FI} (hF : FOk P F) (hmix : P.follows .mixedOrders = true) {N : Nat} {S R : Nat → Option (List AV → Mem → T (AV × Mem))} (h0 : SOk P N S) (hR : SOk P N R) {L d n : Nat}
    {g : List AV → T AV} (h : ∀ args Q, (g args).holds Q (fun _ _ => False) → args.all plain1 = true ∧ H (evFun P tt S F L d n args mem0) (fun x => plainA x.1 = true ∧ Q x.1) (fun _ _ => False)) (hSn : S n = none := by kernel_rfl) :
    SOk P N (fun f => bif2 (Nat.beq f n) (some (treeS g)) (R f)) := by
  intro f s hs args M Q Qp hq
  simp only [bif2_eq] at hs
  split at hs
  · rename_i hf
    obtain rfl : f = n := Nat.eq_of_beq_eq_true hf
    cases hs
    have hq' : (g args).holds (fun v => Q (v, M)) (fun _ _ => False) := by
      unfold treeS at hq
      rw [T.holds_bind] at hq
      exact T.nopan_ok hq
    obtain ⟨h1, h3⟩ := h args _ hq'
    obtain ⟨k1, k2⟩ := evFun_okA tok h0 hF hmix d hSn args mem0 _ _ h3.out
    refine .inl ⟨k1, fun φ w zs hr hz => ?_⟩
    have hr0 : Rep N (fun _ => none) mem0 w := ⟨fun id => trivial, fun id id' p p' h => h.elim, fun id p h => h.elim, fun id _ => ⟨rfl, rfl⟩, hr.size⟩
    refine (k2 _ w zs hr0 (plain1s_rel args h1 hz)).mono fun e w' he => ?_
    rcases he with ⟨u, rfl, φ', x, M', hx, hxu, hr', he⟩ | ⟨u, rfl, φ', x, M', hx, _⟩
    · obtain ⟨a, b⟩ := frame0 hr he
      exact .inl ⟨u, rfl, φ, x, M, hx.2, plainA_rel hx.1 hxu, a, b⟩
    · exact hx.elim
  · exact hR f s hs args M Q Qp hq
/-- A function that has no code, of plain values. -/
theorem sOk_ext {P : Program} {N : Nat} {R : Nat → Option (List AV → Mem → T (AV × Mem))} (hR : SOk P N R) {n : Nat} {fn : Func} {e : Array Value → Sem Value} (hf : P.funcs[n]? = some fn) (hname : (fn.name == "runtime.NumGoroutine") = false)
    (hb : fn.body.isNone = true) (hn : Extern.findNext fn = none) (he : Extern.find fn = some e) {g : List AV → T AV}
    (h : ∀ args Q, (g args).holds Q (fun _ _ => False) → ∀ φ zs, AVsRel φ args zs → ∀ w, ∃ v x, (e zs.toArray).run P w = .ok v w ∧ Q x ∧ AVRel φ x v) :
    SOk P N (fun f => bif2 (Nat.beq f n) (some (treeS g)) (R f)) := by
  intro f s hs args M Q Qp hq
  simp only [bif2_eq] at hs
  split at hs
  · rename_i hfn
    obtain rfl : f = n := Nat.eq_of_beq_eq_true hfn
    cases hs
    have hq' : (g args).holds (fun v => Q (v, M)) (fun _ _ => False) := by
      unfold treeS at hq
      rw [T.holds_bind] at hq
      exact T.nopan_ok hq
    refine .inr fun φ w zs hr hz => ?_
    obtain ⟨v, x, h1, h2, h3⟩ := h args _ hq' φ zs hz w
    exact ⟨v, w, by rw [run_callFunc_extern hf hname hb hn he, h1]; rfl, .here hr h2 h3⟩
  · exact hR f s hs args M Q Qp hq
end Go.Eng
