/- An evaluator of the code of the model, and lemmas of its proof of soundness: what it tells of a call, the call does; no condition but those that each lemma names. -/
import Derived.Test.YtiokhipgpfeoeaaEng7
import Derived.LoopN
import Derived.Tactics
set_option linter.all false
set_option linter.deprecated false
set_option autoImplicit false
namespace Go.Eng
open Go Go.RowKit

structure StOk (N n : Nat) (ds : List Deferred) (φ : Phi) (M : Mem) (w : World) (st : Tmps) (a : Act) : Prop where
  rep : Rep N φ M w
  tmps : TmpsRel φ st a.tmps
  size : a.tmps.size = n
  defers : a.defers = ds

/-- What follows a panic. -/
def PanOk (N : Nat) (ds : List Deferred) (φ : Phi) (M : Mem) (w : World) (Qp : AV → Mem → Prop) (QX : Exit → Act → World → Prop) : Prop :=
  ∀ v a' w', a'.defers = ds → GoodP N φ M w Qp v w' → QX (.panic [{ v, recovered := false }]) a' w'
theorem PanOk.step {N : Nat} {ds : List Deferred} {φ φ' : Phi} {M M' : Mem} {w w' : World} {Qp : AV → Mem → Prop} {QX : Exit → Act → World → Prop} (h : PanOk N ds φ M w Qp QX) (he : Ext φ M w φ' M' w') : PanOk N ds φ' M' w' Qp QX :=
  fun v a' w'' hd ⟨φ2, x, M2, h1, h2, h3, h4⟩ => h v a' w'' hd ⟨φ2, x, M2, h1, h2, h3, he.trans h4⟩

theorem putA_eq (d : Option Tmp) (st : Tmps) (v : AV) (t : Nat) : putA d st v t = match d with | some d => if t = d then v else st t | none => st t := by
  cases d with
  | none => rfl
  | some d =>
    show (@Bool.rec (fun _ => AV) (st t) v (Nat.beq t d)) = _
    simp only
    cases h : Nat.beq t d with
    | true => rw [if_pos (Nat.eq_of_beq_eq_true h)]
    | false => rw [if_neg (Nat.ne_of_beq_eq_false h)]
theorem putA_self {st : Tmps} {d : Tmp} {v : AV} (h : st d = v) : putA (some d) st v = st := by
  funext t
  rw [putA_eq]
  show (if t = d then v else st t) = st t
  split
  · rename_i e; rw [e, h]
  · rfl
theorem setB_self {st : Tmps} {c : Operand} {b : Bool} (h : evA st c = .b b) : setB c b st = st := by
  cases c with
  | tmp t => exact putA_self h
  | _ => rfl
theorem TmpsRel.mono {φ φ' : Phi} (hp : PhiLe φ φ') {st : Tmps} {tmps : Array Value} (h : TmpsRel φ st tmps) : TmpsRel φ' st tmps := fun t => (h t).mono hp
theorem TmpsRel.put {φ : Phi} {st : Tmps} {a : Act} (h : TmpsRel φ st a.tmps) {d : Option Tmp} {x : AV} {v : Value} (hx : AVRel φ x v) (hd : ∀ t, d = some t → t < a.tmps.size) : TmpsRel φ (putA d st x) (a.put d v).tmps := by
  intro t
  rw [putA_eq]
  cases d with
  | none => exact h t
  | some d =>
    simp only [Act.put]
    split
    · rename_i e; subst e
      have hlt := hd t rfl
      simp [hlt, hx]
    · rename_i hne
      have : (a.tmps.setIfInBounds d v).getD t undef = a.tmps.getD t undef := by
        simp only [Array.getD_eq_getD_getElem?, Array.getElem?_setIfInBounds, if_neg (Ne.symm hne)]
      rw [this]; exact h t
theorem put_size (a : Act) (d : Option Tmp) (v : Value) : (a.put d v).tmps.size = a.tmps.size := by cases d <;> simp [Act.put]
theorem put_defers (a : Act) (d : Option Tmp) (v : Value) : (a.put d v).defers = a.defers := by cases d <;> rfl

def OpOk (P : Program) (n : Nat) (o : Oper) : Prop := (∀ d, o.dst = some d → d < n) ∧ ∀ s d x, o.op = .convert s d x → ∃ e, P.underlying s = some e

theorem yielded_rel {φ : Phi} {st : Tmps} {a : Act} (h : TmpsRel φ st a.tmps) {ops : Array Oper} {j d : Nat} {p : Oper} (hp : ops.toList[j]? = some p) (hd : p.dst = some d) (hlt : d < a.tmps.size) :
    (∀ b, st d = .b b → yielded ops a.tmps j = some b) ∧ ((∀ b, st d ≠ .b b) → st d ≠ .top → (∀ b, st d ≠ .v (.bool b)) → yielded ops a.tmps j = none) := by
  have hp' : ops[j]? = some p := by simpa using hp
  have hr := h d
  have hg : a.tmps[d]? = some (a.tmps.getD d undef) := by simp [Array.getD_eq_getD_getElem?, hlt]
  constructor
  · intro b e
    rw [e] at hr
    generalize hz : a.tmps.getD d undef = z at hr hg
    cases hr
    simp [yielded, hp', hd, hg]
  · intro h1 h2 h3
    simp only [yielded, hp', Option.bind_some, hd, hg]
    generalize a.tmps.getD d undef = z at hr
    generalize st d = x at hr h1 h2 h3
    cases hr <;> first | rfl | (exact absurd rfl (h1 _)) | (exact absurd rfl h2) | skip
    cases z <;> first | rfl | exact absurd rfl (h3 _)

theorem evOps_step {P : Program} {tt : TT} (tok : TTok P tt) {N : Nat} {callF : FuncId → List AV → Mem → T (AV × Mem)} (hc : CallsOk P N callF) {n : Nat} {ds : List Deferred} {ops : Array Oper} (hall : ∀ o ∈ ops.toList, OpOk P n o)
    {o : Oper} {l : List Oper} {st : Tmps} {M : Mem} {φ : Phi} {w : World} {a : Act} {Q : Tmps × Mem → Prop} {Qp : AV → Mem → Prop} {QX : Exit → Act → World → Prop} {K : Act → World → Prop} (h : (evOps P tt callF ops.toList (o :: l) st M).holds Q Qp) (hoo : OpOk P n o)
    (hs : StOk N n ds φ M w st a) (ih : ∀ φ' M' w' st' a', (evOps P tt callF ops.toList l st' M').holds Q Qp → StOk N n ds φ' M' w' st' a' → Ext φ M w φ' M' w' → K a' w') (hp : PanOk N ds φ M w Qp QX) :
    if Region.wanted o (yielded ops a.tmps) = true then o.wp P a w K QX ∨ (o.asks P a w ∧ LetsOut QX) else K (a.put o.dst undef) w := by
  -- the operation is carried out
  have go : ((evOp ⟨P, tt, callF, M, st⟩ o.op).bind fun x => evOps P tt callF ops.toList l (putA o.dst st x.1) x.2).holds Q Qp → o.wp P a w (K) QX := by
    intro h
    rw [T.holds_bind] at h
    have key : ∀ v w', Good N φ M w (fun x => (evOps P tt callF ops.toList l (putA o.dst st x.1) x.2).holds Q Qp) v w' → K (a.put o.dst v) w' := by
      intro v w' ⟨φ', x, M', hq', hv, hr', he⟩
      exact ih φ' M' w' _ _ hq' ⟨hr', (hs.tmps.mono he.phi).put hv (fun t ht => by rw [hs.size]; exact hoo.1 t ht), (put_size ..).trans hs.size, (put_defers ..).trans hs.defers⟩ he
    have hout := evOp_ok (K := ⟨P, tt, callF, M, st⟩) rfl tok hc hs.rep hs.tmps o h hoo.2
    unfold Oper.wp
    rcases hout with ⟨v, w', hrun, hg⟩ | ⟨v, w', hrun, hg⟩ | ⟨f, args, w', hrun, hcalls⟩
    · rcases hrun with hrun | ⟨hrun, hv⟩
      · rw [hrun]; exact key v w' hg
      · rw [hrun]; subst hv; exact key _ w' hg
    · rw [hrun]; exact hp v a w' hs.defers hg
    · rw [hrun]
      refine Calls.mono hcalls ?_
      intro e w'' he
      rcases he with ⟨v, rfl, hg⟩ | ⟨v, rfl, hg⟩
      · exact key v w'' hg
      · exact hp v a w'' hs.defers hg
  have skip : (evOps P tt callF ops.toList l (putA o.dst st (.v undef)) M).holds Q Qp → K (a.put o.dst undef) w := by
    intro h
    exact ih φ M w _ _ h ⟨hs.rep, hs.tmps.put (.v _) (fun t ht => by rw [hs.size]; exact hoo.1 t ht), (put_size ..).trans hs.size, (put_defers ..).trans hs.defers⟩ (.refl _ _ _)
  have h' : (@Option.rec (Nat × Bool) (fun _ => T (Tmps × Mem)) ((evOp ⟨P, tt, callF, M, st⟩ o.op).bind fun x => evOps P tt callF ops.toList l (putA o.dst st x.1) x.2)
    (guarded ops.toList st M o (evOps P tt callF ops.toList l) fun st => (evOp ⟨P, tt, callF, M, st⟩ o.op).bind fun x => evOps P tt callF ops.toList l (putA o.dst st x.1) x.2) o.guard).holds Q Qp := h
  cases hg : o.guard with
  | none =>
    rw [hg] at h'
    simp only [Region.wanted, hg, if_true]
    exact .inl (go h')
  | some g =>
    rw [hg] at h'
    obtain ⟨j, want⟩ := g
    have h' : (guarded ops.toList st M o (evOps P tt callF ops.toList l) (fun st => (evOp ⟨P, tt, callF, M, st⟩ o.op).bind fun x => evOps P tt callF ops.toList l (putA o.dst st x.1) x.2) (j, want)).holds Q Qp := h'
    unfold guarded at h'
    rw [nth?_eq] at h'
    cases hpj : ops.toList[j]? with
    | none => simp only [hpj] at h'; exact h'.elim
    | some p =>
      simp only [hpj] at h'
      unfold yB at h'
      have hpok := hall p (List.mem_of_getElem? hpj)
      cases hd : p.dst with
      | none => rw [hd] at h'; exact h'.elim
      | some d =>
        rw [hd] at h'
        have h' : (yC (st d) (fun b => .br (b == want) ((evOp ⟨P, tt, callF, M, putA (some d) st (.b want)⟩ o.op).bind fun x => evOps P tt callF ops.toList l (putA o.dst (putA (some d) st (.b want)) x.1) x.2) (evOps P tt callF ops.toList l (putA o.dst (putA (some d) st (.b (!want))) (.v undef)) M)) (evOps P tt callF ops.toList l (putA o.dst st (.v undef)) M)).holds Q Qp := h'
        have hlt : d < a.tmps.size := by rw [hs.size]; exact hpok.1 d hd
        obtain ⟨y1, y2⟩ := yielded_rel hs.tmps hpj hd hlt
        have hskip : (∀ b, st d ≠ .b b) → st d ≠ .top → (∀ b, st d ≠ .v (.bool b)) → (evOps P tt callF ops.toList l (putA o.dst st (.v undef)) M).holds Q Qp →
            (if Region.wanted o (yielded ops a.tmps) = true then o.wp P a w (K) QX ∨ (o.asks P a w ∧ LetsOut QX) else K (a.put o.dst undef) w) := by
          intro e1 e2 e3 hh
          rw [if_neg (by simp [Region.wanted, hg, y2 e1 e2 e3])]
          exact skip hh
        cases hst : st d with
        | b b =>
          rw [hst] at h'
          obtain ⟨h1, h2⟩ := h'
          have hy := y1 b hst
          cases hbw : b == want with
          | true =>
            rw [if_pos (by simp only [Region.wanted, hg, hy]; simpa using hbw)]
            have h1 := h1 hbw
            have hb : b = want := by simpa using hbw
            rw [← hb, putA_self hst] at h1
            exact .inl (go h1)
          | false =>
            rw [if_neg (by simp only [Region.wanted, hg, hy]; simpa using hbw)]
            have h2 := h2 hbw
            have hb : (!want) = b := by cases b <;> cases want <;> first | rfl | cases hbw
            rw [hb, putA_self hst] at h2
            exact skip h2
        | top => rw [hst] at h'; exact h'.elim
        | v x =>
          rw [hst] at h'
          obtain ⟨h1, h2⟩ := brn_ok h'
          refine hskip (by rw [hst]; simp) (by rw [hst]; simp) (fun b e => ?_) h2
          rw [hst] at e; cases e; cases h1
        | _ => rw [hst] at h'; exact hskip (by rw [hst]; simp) (by rw [hst]; simp) (by rw [hst]; simp) h'


theorem evOps_ok {P : Program} {tt : TT} (tok : TTok P tt) {N : Nat} {callF : FuncId → List AV → Mem → T (AV × Mem)} (hc : CallsOk P N callF) {n : Nat} {ds : List Deferred} {ops : Array Oper} (hall : ∀ o ∈ ops.toList, OpOk P n o)
    (l : List Oper) : ∀ {st : Tmps} {M : Mem} {φ : Phi} {w : World} {a : Act} {Q : Tmps × Mem → Prop} {Qp : AV → Mem → Prop} {QX : Exit → Act → World → Prop} (_ : (evOps P tt callF ops.toList l st M).holds Q Qp) (_ : ∀ o ∈ l, OpOk P n o)
    (_ : StOk N n ds φ M w st a) (_ : ∀ φ' M' w' st' a', Q (st', M') → StOk N n ds φ' M' w' st' a' → Ext φ M w φ' M' w' → QX .normal a' w') (_ : PanOk N ds φ M w Qp QX), wpList P ops QX l a w := by
  induction l with
  | nil => intro st M φ w a Q Qp QX h _ hs hq hp; exact hq φ M w st a h hs (.refl _ _ _)
  | cons o l ih =>
    intro st M φ w a Q Qp QX h hok hs hq hp
    unfold wpList
    exact evOps_step tok hc hall h (hok o (by simp)) hs (fun φ' M' w' st' a' h1 h2 h3 => ih h1 (fun o' ho' => hok o' (by simp [ho'])) h2 (fun φ2 M2 w2 st2 a2 k1 k2 k3 => hq φ2 M2 w2 st2 a2 k1 k2 (h3.trans k3)) (hp.step h3)) hp
end Go.Eng
