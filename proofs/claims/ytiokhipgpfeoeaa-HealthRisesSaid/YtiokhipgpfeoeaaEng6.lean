/- An evaluator of the code of the model, and lemmas of its proof of soundness: what it tells of a call, the call does; no condition but those that each lemma names. -/
import Derived.Test.YtiokhipgpfeoeaaEng6h
set_option linter.all false
set_option linter.deprecated false
set_option autoImplicit false
namespace Go.Eng
open Go Go.RowKit

theorem lenA_ok {P : Program} {tt : TT} (tok : TTok P tt) {φ : Phi} {w : World} {t ty : TypeId} (ht : (tt t).u ≠ .bad) {x : AV} {y : Value} (hx : AVRel φ x y) {Q : AV → Prop} {Qp : AV → Mem → Prop}
    (h : (lenA (tt t).u x).holds Q Qp) (ts : List TypeId) (ys : List Value) : Val P φ w Q (Builtin.len_ (t :: ts).toArray ty (y :: ys).toArray) := by
  have ti := (tok t ht).und
  cases hu : (tt t).u with
  | sl el =>
    rw [hu] at h ti
    have ti : P.underlying t = some (.slice el) := ti
    cases hx with
    | v =>
      cases y <;> first | (exact h.elim) | skip
      exact ⟨_, _, by simp [Builtin.len_, run_underlying ti, goInt], h, .i _ _⟩
    | sl id r n cap x cc hp hz hc hle hk => exact ⟨_, _, by simp [Builtin.len_, run_underlying ti, goInt], h, .i _ _⟩
    | e A cc => exact ⟨_, _, by simp [Builtin.len_, run_underlying ti, goInt], h, .i _ _⟩
    | _ => exact h.elim
  | arr n el =>
    rw [hu] at h ti
    have ti : P.underlying t = some (.array n el) := ti
    exact ⟨_, _, by simp [Builtin.len_, run_underlying ti, goInt], h, .i _ _⟩
  | str =>
    rw [hu] at h ti
    have ti : P.underlying t = some .string := ti
    obtain ⟨s, rfl, h⟩ := onS_ok h
    cases hx
    exact ⟨_, _, by simp [Builtin.len_, run_underlying ti, goInt], h, .i _ _⟩
  | st fs => rw [hu] at h; exact h.elim
  | leaf => rw [hu] at h; exact h.elim
  | ifc => rw [hu] at h; exact h.elim
  | bad => exact (ht hu).elim

theorem fold2_ok {P : Program} {φ : Phi} {w : World} {f : AV → AV → T AV} {g : Value → Value → Sem Value} {Qp : AV → Mem → Prop}
    (hf : ∀ a b u v (Q : AV → Prop), AVRel φ a u → AVRel φ b v → (f a b).holds Q Qp → Val P φ w Q (g u v)) (l : List AV) : ∀ (zs : List Value) (_ : AVsRel φ l zs) (a : AV) (u : Value) (_ : AVRel φ a u) (Q : AV → Prop) (_ : (fold2 f l a).holds Q Qp),
    Val P φ w Q (zs.foldlM g u) := by
  induction l with
  | nil => intro zs hz a u hu Q h; cases hz; exact ⟨u, a, rfl, h, hu⟩
  | cons x l ih =>
    intro zs hz a u hu Q h
    cases hz with
    | cons hx ht =>
      have h' : ((f a x).bind (fold2 f l)).holds Q Qp := h
      rw [T.holds_bind] at h'
      obtain ⟨z, y, h1, h2, h3⟩ := hf _ _ _ _ _ hu hx h'
      obtain ⟨z', y', h4, h5, h6⟩ := ih _ ht y z h3 Q h2
      exact ⟨z', y', by simp [List.foldlM, h1, h4], h5, h6⟩
theorem minI_ok {P : Program} {φ : Phi} {w : World} {Qp : AV → Mem → Prop} (a b : AV) (u v : Value) (Q : AV → Prop) (hu : AVRel φ a u) (hv : AVRel φ b v) (h : (minI a b).holds Q Qp) : Val P φ w Q (Builtin.min2 u v) := by
  obtain ⟨k, x, rfl, h⟩ := onI_ok h
  obtain ⟨k', y, rfl, h⟩ := onI_ok (show (onI b fun _ y => .ret (.i k (if y < x then y else x))).holds Q Qp from h)
  cases hu; cases hv
  exact ⟨_, _, rfl, h, .i _ _⟩
theorem maxI_ok {P : Program} {φ : Phi} {w : World} {Qp : AV → Mem → Prop} (a b : AV) (u v : Value) (Q : AV → Prop) (hu : AVRel φ a u) (hv : AVRel φ b v) (h : (maxI a b).holds Q Qp) : Val P φ w Q (Builtin.max2 u v) := by
  obtain ⟨k, x, rfl, h⟩ := onI_ok h
  obtain ⟨k', y, rfl, h⟩ := onI_ok (show (onI b fun _ y => .ret (.i k (if y > x then y else x))).holds Q Qp from h)
  cases hu; cases hv
  exact ⟨_, _, rfl, h, .i _ _⟩
theorem hd?_ok {α β : Type} {l : List α} {f : α → T β} {Q : β → Prop} {Qp : AV → Mem → Prop} (h : (hd? l f).holds Q Qp) : ∃ x r, l = x :: r ∧ (f x).holds Q Qp := by
  cases l with
  | nil => exact h.elim
  | cons x r => exact ⟨x, r, rfl, h⟩
theorem ex2_ok {α β : Type} {l : List α} {f : α → α → T β} {Q : β → Prop} {Qp : AV → Mem → Prop} (h : (ex2 l f).holds Q Qp) : ∃ x y, l = [x, y] ∧ (f x y).holds Q Qp := by
  match l, h with
  | [], h => exact h.elim
  | [_], h => exact h.elim
  | [x, y], h => exact ⟨x, y, rfl, h⟩
  | _ :: _ :: _ :: _, h => exact h.elim
theorem foldA_ok {P : Program} {φ : Phi} {M : Mem} {w : World} {f : AV → AV → T AV} {g : Value → Value → Sem Value} {Q : AV × Mem → Prop} {Qp : AV → Mem → Prop}
    (hf : ∀ a b u v (Q : AV → Prop), AVRel φ a u → AVRel φ b v → (f a b).holds Q Qp → Val P φ w Q (g u v)) {l : List AV} {zs : List Value} (hz : AVsRel φ l zs) (h : (foldA f M l).holds Q Qp) :
    ∃ z zs', zs = z :: zs' ∧ Val P φ w (fun x => Q (x, M)) (zs'.foldlM g z) := by
  cases hz with
  | nil => exact h.elim
  | cons hx ht =>
    have h' : ((fold2 f _ _).bind fun v => .ret (v, M)).holds Q Qp := h
    rw [T.holds_bind] at h'
    exact ⟨_, _, rfl, fold2_ok hf _ _ ht _ _ hx _ h'⟩

/-- The functions that are called: what the tree tells is what the machine does. -/
def CallsOk (P : Program) (N : Nat) (callF : FuncId → List AV → Mem → T (AV × Mem)) : Prop :=
  ∀ f args M Q Qp, (callF f args M).holds Q Qp → ((∃ fn c, P.funcs[f]? = some fn ∧ fn.body = some c ∧ (fn.name == "runtime.NumGoroutine") = false) ∧
    ∀ φ w zs, Rep N φ M w → AVsRel φ args zs → Calls P f zs.toArray w fun e w' => (∃ v, e = .returned v ∧ Good N φ M w Q v w') ∨ (∃ v, e = .panicked [{ v, recovered := false }] ∧ GoodP N φ M w Qp v w')) ∨
  (∀ φ w zs, Rep N φ M w → AVsRel φ args zs → ∃ v w', (callFunc f zs.toArray).run P w = .ok (.value v) w' ∧ Good N φ M w Q v w')

theorem builtinA_ok {P : Program} {tt : TT} (tok : TTok P tt) {N : Nat} {φ : Phi} {M : Mem} {w : World} (hr : Rep N φ M w) {b : Builtin} {ts : List TypeId} {ty : TypeId} {cs : Array Bool} {l : List AV} {zs : List Value} (hz : AVsRel φ l zs)
    {Q : AV × Mem → Prop} {Qp : AV → Mem → Prop} (h : (builtinA tt M b ts l).holds Q Qp) : Out P N φ M w Q Qp (builtin b ts.toArray ty cs zs.toArray) := by
  cases b with
  | len =>
    obtain ⟨t, ts', rfl, h⟩ := hd?_ok (show (hd? ts fun t => hd? l fun x => onK (tt t).u ((lenA (tt t).u x).bind fun v => .ret (v, M)) ((lenA (tt t).u x).bind fun v => .ret (v, M))).holds Q Qp from h)
    obtain ⟨x, l', rfl, h⟩ := hd?_ok h
    obtain ⟨hb, h⟩ := onK_both h
    rw [T.holds_bind] at h
    cases hz with
    | cons hx ht => exact Out.ofVal hr (lenA_ok tok hb hx h ts' _)
  | min =>
    obtain ⟨z, zs', rfl, hv⟩ := foldA_ok (P := P) (g := Builtin.min2) (fun a b u v Q hu hv h => minI_ok a b u v Q hu hv h) hz (show (foldA minI M l).holds Q Qp from h)
    exact Out.ofVal hr (by simpa [Builtin.min_] using hv)
  | max =>
    obtain ⟨z, zs', rfl, hv⟩ := foldA_ok (P := P) (g := Builtin.max2) (fun a b u v Q hu hv h => maxI_ok a b u v Q hu hv h) hz (show (foldA maxI M l).holds Q Qp from h)
    exact Out.ofVal hr (by simpa [Builtin.max_] using hv)
  | append =>
    obtain ⟨s, x, rfl, h⟩ := ex2_ok (show (ex2 l fun s x => ex2 ts fun t tx => evAppend tt M t tx s x).holds Q Qp from h)
    obtain ⟨t, tx, rfl, h⟩ := ex2_ok h
    cases hz with
    | cons hs hz =>
      cases hz with
      | cons hx hz =>
        cases hz
        obtain ⟨z, w', h1, h2⟩ := evAppend_ok (P := P) tok hr (ty := ty) hs hx h
        exact Out.val h1 h2
  | _ => exact h.elim

theorem args_rel {φ : Phi} {st : Tmps} {a : Act} (h : TmpsRel φ st a.tmps) (xs : Array Operand) : AVsRel φ (xs.toList.map (evA st)) (xs.map a.eval).toList := by
  rw [Array.toList_map]
  exact AVsRel.map _ _ _ fun x _ => evA_rel h x

theorem evCall_ok {P : Program} {tt : TT} (tok : TTok P tt) {N : Nat} {callF : FuncId → List AV → Mem → T (AV × Mem)} (hc : CallsOk P N callF) {φ : Phi} {M : Mem} {w : World} (hr : Rep N φ M w) {st : Tmps} {a : Act} (hst : TmpsRel φ st a.tmps)
    {c : Call} {ty : TypeId} {Q : AV × Mem → Prop} {Qp : AV → Mem → Prop} (h : (evCall tt callF M st c).holds Q Qp) : Out P N φ M w Q Qp (do let d ← resolve a.eval c ty; invoke d.target d.args) := by
  have hargs := args_rel hst c.args
  unfold evCall at h
  cases hcl : c.callee with
  | builtin b =>
    rw [hcl] at h
    have := builtinA_ok (P := P) tok hr (ty := ty) (cs := c.args.map fun | .const _ => true | _ => false) hargs (show (builtinA tt M b c.argTypes.toList (c.args.toList.map (evA st))).holds Q Qp from h)
    rw [Array.toArray_toList, Array.toArray_toList] at this
    have e : resolve a.eval c ty = pure { target := .builtin b c.argTypes ty (c.args.map fun | .const _ => true | _ => false), args := c.args.map a.eval } := by
      unfold resolve; rw [hcl]; rfl
    rw [e]
    exact this
  | invoke r n => rw [hcl] at h; exact h.elim
  | value f =>
    rw [hcl] at h
    obtain ⟨fn, caps, hf, h⟩ := onFn_ok (show (onFn (evA st f) (callA callF M (c.args.toList.map (evA st)))).holds Q Qp from h)
    have hv := evA_rel hst f
    rw [hf] at hv
    generalize hgv : a.eval f = fv at hv
    cases hv with
    | fn _ _ ca hca =>
      cases fn with
      | func g =>
        have h : (callF g (c.args.toList.map (evA st) ++ caps) M).holds Q Qp := h
        have hrel := hargs.append hca
        rcases hc g _ M Q Qp h with ⟨⟨fn, body, hfn, hbody, hname⟩, hcalls⟩ | hext
        · refine .inr (.inr ⟨g, c.args.map a.eval ++ ca, w, ?_, ?_⟩)
          · have hname' : ¬ fn.name = "runtime.NumGoroutine" := by simpa using hname
            simp [resolve, hcl, hgv, Deferred.ofValue, invoke, callFunc, program, Sem.run, hfn, hbody, hname']
          · have := hcalls φ w _ hr hrel
            rwa [show ((c.args.map a.eval).toList ++ ca.toList).toArray = c.args.map a.eval ++ ca by simp] at this
        · obtain ⟨v, w', hrun, hg⟩ := hext φ w _ hr hrel
          rw [show ((c.args.map a.eval).toList ++ ca.toList).toArray = c.args.map a.eval ++ ca by simp] at hrun
          refine .inl ⟨v, w', .inl ?_, hg⟩
          simp [resolve, hcl, hgv, Deferred.ofValue, invoke, hrun]
      | _ => exact h.elim
end Go.Eng
