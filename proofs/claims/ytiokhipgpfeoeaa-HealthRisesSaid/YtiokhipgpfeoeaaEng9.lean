/- An evaluator of the code of the model, and lemmas of its proof of soundness: what it tells of a call, the call does; no condition but those that each lemma names. -/
import Derived.Test.YtiokhipgpfeoeaaEng8c
set_option linter.all false
set_option linter.deprecated false
set_option autoImplicit false
namespace Go.Eng
open Go Go.RowKit

def resG (tmps : Array Value) : ResultVar → Sem Value
  | .tmp t => pure (tmps.getD t undef)
  | .cell a t => do loadVar t (← asAddr (tmps.getD a undef))
theorem results_eq (fn : Func) (tmps : Array Value) : results fn tmps = (do let vs ← fn.results.mapM (resG tmps); pure (if h : vs.size = 1 then vs[0] else .tuple vs)) := by
  unfold results
  congr 1

theorem evRes_ok {P : Program} {tt : TT} (tok : TTok P tt) {N : Nat} {st : Tmps} {w : World} {tmps : Array Value} (l : List ResultVar) : ∀ {φ : Phi} {M : Mem} (_ : Rep N φ M w) (_ : TmpsRel φ st tmps) {Q : List AV × Mem → Prop} {Qp : AV → Mem → Prop}
    (_ : (evRes tt st l M).holds Q Qp), ∃ zs : List Value, (l.mapM (resG tmps)).run P w = .ok zs w ∧
      ∃ φ' xs M', Q (xs, M') ∧ AVsRel φ' xs zs ∧ Rep N φ' M' w ∧ Ext φ M w φ' M' w := by
  induction l with
  | nil => intro φ M hr hst Q Qp h; exact ⟨[], by simp, φ, [], M, h, .nil, hr, .refl _ _ _⟩
  | cons r l ih =>
    intro φ M hr hst Q Qp h
    have h : ((@ResultVar.casesOn (fun _ => T (AV × Mem)) r (fun t => .ret (st t, M)) (fun a t => evLoad (tt t) M (st a))).bind fun x => (evRes tt st l x.2).bind fun y => .ret (x.1 :: y.1, y.2)).holds Q Qp := h
    rw [T.holds_bind] at h
    cases r with
    | tmp t =>
      have h : ((evRes tt st l M).bind fun y => .ret (st t :: y.1, y.2)).holds Q Qp := h
      rw [T.holds_bind] at h
      obtain ⟨zs, hrun, φ', xs, M', hq, hx, hr', he⟩ := ih hr hst h
      refine ⟨tmps.getD t undef :: zs, ?_, φ', st t :: xs, M', hq, .cons ((hst t).mono he.phi) hx, hr', he⟩
      rw [List.mapM_cons]
      simp only [Sem.run_bind, hrun, Result.andThen_ok, resG, Sem.run_pure]
    | cell a t =>
      have h : (evLoad (tt t) M (st a)).holds (fun x => ((evRes tt st l x.2).bind fun y => .ret (x.1 :: y.1, y.2)).holds Q Qp) Qp := h
      obtain ⟨z, hz, φ1, x, M1, hq, hx, hr1, he1⟩ := evLoad_ok (P := P) tok hr (hst a) h
      rw [T.holds_bind] at hq
      obtain ⟨zs, hrun, φ2, xs, M2, hq2, hx2, hr2, he2⟩ := ih hr1 (hst.mono he1.phi) hq
      refine ⟨z :: zs, ?_, φ2, x :: xs, M2, hq2, .cons (hx.mono he2.phi) hx2, hr2, he1.trans he2⟩
      have hv := hst a
      have ha : ∃ ad, tmps.getD a undef = .pointer (some ad) := by
        generalize tmps.getD a undef = v at hv
        obtain ⟨_, _, _, e, _⟩ := onPtr_ok h
        rw [e] at hv; cases hv; exact ⟨_, rfl⟩
      obtain ⟨ad, had⟩ := ha
      rw [had] at hz
      have hz' : (loadVar t ad).run P w = .ok z w := by simpa [Instr.loadAt, Instr.sureAddr] using hz
      rw [List.mapM_cons]
      simp only [Sem.run_bind, hrun, Result.andThen_ok, resG, Sem.run_pure, had, asAddr, hz']

theorem single_rel {φ : Phi} {xs : List AV} {zs : List Value} {M : Mem} (hx : AVsRel φ xs zs) : AVRel φ (single (xs, M)).1 (if h : zs.length = 1 then zs[0] else .tuple zs.toArray) := by
  cases hx with
  | nil => simp; exact .tup _ _ .nil
  | cons h1 h2 =>
    cases h2 with
    | nil => exact h1
    | cons h3 h4 =>
      rw [dif_neg (by simp)]
      exact .tup _ _ (.cons h1 (.cons h3 h4))
theorem results_ok {P : Program} {tt : TT} (tok : TTok P tt) {N : Nat} {st : Tmps} {w : World} {tmps : Array Value} {fn : Func} {φ0 φ : Phi} {M0 M : Mem} {w0 : World} (hr0 : Rep N φ0 M0 w0) (he0 : Ext φ0 M0 w0 φ M w) (hr : Rep N φ M w) (hst : TmpsRel φ st tmps) {base : Nat} (hb : base = M0.next) {roots : List AV} {z : Bool} {Q : AV × Mem → Prop} {Qp : AV → Mem → Prop}
    (h : ((evRes tt st fn.results.toList M).bind (shutF z base roots)).holds Q Qp) : ∃ v, (results fn tmps).run P w = .ok v w ∧ Good N φ0 M0 w0 Q v w := by
  rw [T.holds_bind] at h
  obtain ⟨zs, hrun, φ', xs, M', hq, hx, hr', he⟩ := evRes_ok (P := P) tok _ hr hst h
  obtain ⟨ρ, φ2, M2, hq, hren, hr2, he2⟩ := compact_ok hr0 hr' (he0.trans he) hb (show (compact base (roots ++ xs) M' fun f M => .ret (single (mapL f xs, M))).holds Q Qp by rw [shutF_eq] at hq; exact hq)
  have hq : Q (single (mapL ρ xs, M2)) := hq
  have key : (results fn tmps).run P w = .ok (if h : zs.length = 1 then zs[0] else .tuple zs.toArray) w := by
    rw [results_eq, Array.mapM_eq_mapM_toList]
    simp only [bind_map_left, Sem.run_bind, hrun, Result.andThen_ok]
    simp
  exact ⟨_, key, φ2, (single (mapL ρ xs, M2)).1, M2, by rw [show ((single (mapL ρ xs, M2)).1, M2) = single (mapL ρ xs, M2) from rfl]; exact hq, single_rel (mapRel hren hx), hr2, he2⟩

/-- A function's row of the table. -/
structure FIok (P : Program) (f : FuncId) (fi : FI) : Prop where
  ex : ∃ fn, P.funcs[f]? = some fn ∧ fn.body = some fi.code ∧ fn.results.toList = fi.res ∧ fn.ntmps = fi.n ∧ (fn.name == "runtime.NumGoroutine") = false ∧ CodeOk P fi.n fi.code
def FOk (P : Program) (F : Nat → Option FI) : Prop := ∀ f fi, F f = some fi → FIok P f fi
def SOk (P : Program) (N : Nat) (S : Nat → Option (List AV → Mem → T (AV × Mem))) : Prop := ∀ f s, S f = some s → ∀ args M Q Qp, (s args M).holds Q Qp →
  ((∃ fn c, P.funcs[f]? = some fn ∧ fn.body = some c ∧ (fn.name == "runtime.NumGoroutine") = false) ∧
    ∀ φ w zs, Rep N φ M w → AVsRel φ args zs → Calls P f zs.toArray w fun e w' => (∃ v, e = .returned v ∧ Good N φ M w Q v w') ∨ (∃ v, e = .panicked [{ v, recovered := false }] ∧ GoodP N φ M w Qp v w')) ∨
  (∀ φ w zs, Rep N φ M w → AVsRel φ args zs → ∃ v w', (callFunc f zs.toArray).run P w = .ok (.value v) w' ∧ Good N φ M w Q v w')

theorem argTmps_rel {φ : Phi} (l : List AV) : ∀ {zs : List Value} (_ : AVsRel φ l zs) (i : Nat) (tmps : Array Value) (_ : ∀ j v, zs[j]? = some v → tmps.getD (i + j) undef = v), TmpsRel φ (argTmps l i) tmps := by
  induction l with
  | nil => intro zs h i tmps _ t; exact .top _
  | cons x l ih =>
    intro zs h i tmps hz t
    cases h with
    | cons hx ht =>
      show AVRel φ (putA (some i) (argTmps l (i + 1)) x t) _
      rw [putA_eq]
      simp only
      split
      · rename_i e; subst e
        have := hz 0 _ rfl
        simp only [Nat.add_zero] at this
        rw [this]; exact hx
      · exact ih ht (i + 1) tmps (fun j v hj => by have := hz (j + 1) v (by simpa using hj); rwa [show i + (j + 1) = i + 1 + j by omega] at this) t

theorem evBody_ok {P : Program} {tt : TT} (tok : TTok P tt) {N : Nat} {callF : FuncId → List AV → Mem → T (AV × Mem)} (hc : CallsOk P N callF) (hmix : P.follows .mixedOrders = true) {L big : Nat} {f : FuncId} {fi : FI} (hf : FIok P f fi) {args : List AV} {M : Mem} {Q : AV × Mem → Prop} {Qp : AV → Mem → Prop}
    (h : (evBody P tt L big callF fi args M).holds Q Qp) {φ : Phi} {w : World} {zs : List Value} (hr : Rep N φ M w) (hz : AVsRel φ args zs) :
    Calls P f zs.toArray w fun e w' => (∃ v, e = .returned v ∧ Good N φ M w Q v w') ∨ (∃ v, e = .panicked [{ v, recovered := false }] ∧ GoodP N φ M w Qp v w') := by
  obtain ⟨fn, h1, h2, h3, hn, h4, h5⟩ := hf.ex
  obtain ⟨hle, h⟩ := br_ok (show (T.br (Nat.ble args.length fi.n) (forceN M.next fun base => (evCode P tt callF args fi.keep L big fi.code (argTmps args 0) M).bind (evEnd base args tt fi)) .fail).holds Q Qp from h)
  rw [forceN_eq, T.holds_bind] at h
  have hlen : zs.length ≤ fn.ntmps := by rw [hn, ← hz.length]; exact Nat.le_of_ble_eq_true hle
  refine calls_of_wp h1 h2 (evCode_ok (n := fi.n) (ds := []) tok hc hmix fi.code h h5 ⟨hr, argTmps_rel args hz 0 _ ?_, ?_, rfl⟩ ?_ ?_)
  · intro j v hj
    have hlt : j < zs.length := (List.getElem?_eq_some_iff.1 hj).1
    simp only [Nat.zero_add, Array.getD_eq_getD_getElem?]
    rw [Array.getElem?_append_left (by simpa using hlt)]
    simp [hj]
  · simp; omega
  · intro x φ' M' w' st' a' hq hs he
    have fin : ((evRes tt st' fi.res M').bind (shutF fi.keep.z M.next args)).holds Q Qp → bodyPost P fn (fun e w' => (∃ v, e = .returned v ∧ Good N φ M w Q v w') ∨ (∃ v, e = .panicked [{ v, recovered := false }] ∧ GoodP N φ M w Qp v w')) .ret a' w' := by
      intro hq
      obtain ⟨v, hv, hg⟩ := results_ok (P := P) (fn := fn) tok hr he hs.rep hs.tmps rfl (by rw [h3]; exact hq)
      exact ⟨hs.defers, v, hv, .inl ⟨v, rfl, hg⟩⟩
    cases x with
    | normal => exact fin hq
    | ret => exact fin hq
    | exit j => exact hq.elim
  · intro v a' w' hd hg
    exact ⟨hd, .inr ⟨v, rfl, hg⟩⟩

theorem evFun_ok {P : Program} {tt : TT} (tok : TTok P tt) {N : Nat} {S : Nat → Option (List AV → Mem → T (AV × Mem))} (hS : SOk P N S) {F : Nat → Option FI} (hF : FOk P F) (hmix : P.follows .mixedOrders = true) {L : Nat} (d : Nat) : CallsOk P N (evFun P tt S F L d) := by
  induction d with
  | zero => intro f args M Q Qp h; exact h.elim
  | succ d ih =>
    intro f args M Q Qp h
    have h : (@Option.rec (List AV → Mem → T (AV × Mem)) (fun _ => T (AV × Mem)) (onO (F f) fun fi => evBody P tt L (Nat.pow 2 (Nat.mul 32 d)) (evFun P tt S F L d) fi args M) (fun s => s args M) (S f)).holds Q Qp := h
    cases hs : S f with
    | some s =>
      rw [hs] at h
      exact hS f s hs args M Q Qp h
    | none =>
      rw [hs] at h
      obtain ⟨fi, hfi, h⟩ := onO_ok (show (onO (F f) fun fi => evBody P tt L (Nat.pow 2 (Nat.mul 32 d)) (evFun P tt S F L d) fi args M).holds Q Qp from h)
      have hok := hF f fi hfi
      obtain ⟨fn, h1, h2, h3, hn, h4, h5⟩ := hok.ex
      exact .inl ⟨⟨fn, fi.code, h1, h2, h4⟩, fun φ w zs hr hz => evBody_ok tok ih hmix hok h hr hz⟩
/-- A function that is told by its code. -/
theorem evFun_okA {P : Program} {tt : TT} (tok : TTok P tt) {N : Nat} {S : Nat → Option (List AV → Mem → T (AV × Mem))} (hS : SOk P N S) {F : Nat → Option FI} (hF : FOk P F) (hmix : P.follows .mixedOrders = true) {L : Nat} (d : Nat) {f : FuncId} (hs : S f = none) (args : List AV) (M : Mem) (Q : AV × Mem → Prop) (Qp : AV → Mem → Prop)
    (h : (evFun P tt S F L d f args M).holds Q Qp) : (∃ fn c, P.funcs[f]? = some fn ∧ fn.body = some c ∧ (fn.name == "runtime.NumGoroutine") = false) ∧
    ∀ φ w zs, Rep N φ M w → AVsRel φ args zs → Calls P f zs.toArray w fun e w' => (∃ v, e = .returned v ∧ Good N φ M w Q v w') ∨ (∃ v, e = .panicked [{ v, recovered := false }] ∧ GoodP N φ M w Qp v w') := by
  cases d with
  | zero => exact h.elim
  | succ d =>
    have h : (@Option.rec (List AV → Mem → T (AV × Mem)) (fun _ => T (AV × Mem)) (onO (F f) fun fi => evBody P tt L (Nat.pow 2 (Nat.mul 32 d)) (evFun P tt S F L d) fi args M) (fun s => s args M) (S f)).holds Q Qp := h
    rw [hs] at h
    obtain ⟨fi, hfi, h⟩ := onO_ok (show (onO (F f) fun fi => evBody P tt L (Nat.pow 2 (Nat.mul 32 d)) (evFun P tt S F L d) fi args M).holds Q Qp from h)
    have hok := hF f fi hfi
    obtain ⟨fn, h1, h2, h3, hn, h4, h5⟩ := hok.ex
    exact ⟨⟨fn, fi.code, h1, h2, h4⟩, fun φ w zs hr hz => evBody_ok tok (evFun_ok tok hS hF hmix d) hmix hok h hr hz⟩
end Go.Eng
