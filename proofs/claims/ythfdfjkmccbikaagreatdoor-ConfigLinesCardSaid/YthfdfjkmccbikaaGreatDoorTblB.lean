/- How a table of closed runs is a contract of a function; without conditions. -/
import Derived.Test.YthfdfjkmccbikaaGreatDoorEngMd
import Derived.Test.YthfdfjkmccbikaaGreatDoorEngMc
set_option linter.all false
set_option linter.deprecated false
set_option autoImplicit false
namespace Go.Eng
open Go Go.RowKit
noncomputable def minL (l : List Nat) (d : Nat) : Nat := @List.rec Nat (fun _ => Nat) d (fun x _ ih => bif2 (Nat.blt x ih) x ih) l
noncomputable def minR (M : Mem) (args : List AV) : Nat := minL (newOnly M.lock (walk M 200 (catL ids1 args) [])) M.next
noncomputable def unlk (M0 : Mem) (lk : Nat) (M : Mem) : Mem := laid lk M0.lock M0.get (highL lk M)
theorem calls_mono {P : Program} {f : FuncId} {args : Array Value} {w : World} {R R' : Ending → World → Prop} (h : Calls P f args w R) (hr : ∀ e w', R e w' → R' e w') : Calls P f args w R' :=
  fun cs => let ⟨e, w', fr, r, s⟩ := h cs; ⟨e, w', fr, hr _ _ r, s⟩
/-- What is locked for a while. -/
theorem unlk_ok {N : NB} {φ φ' : Phi} {M M' : Mem} {w w' : World} {lk : Nat} (hr : Rep N φ M w) (h1 : M.lock ≤ lk) (h2 : lk ≤ M.next) (hr' : Rep N φ' M' w') (he : Ext φ ⟨M.next, lk, M.get⟩ w φ' M' w') : Rep N φ' (unlk M lk M') w' ∧ Ext φ M w φ' (unlk M lk M') w' := by
  obtain ⟨a, b⟩ := canon_ok (M := ⟨M.next, lk, M.get⟩) ⟨hr.objs, hr.sep, hr.high, hr.fresh, hr.size⟩ hr' he h2
  have g : (canonM ⟨M.next, lk, M.get⟩ M').get = (unlk M lk M').get := rfl
  refine ⟨⟨a.objs, a.sep, a.high, a.fresh, a.size⟩, ⟨b.phi, b.phi0, b.next, rfl, b.os, b.tape, b.output, b.size, fun q hq hn => b.keep q hq fun id p hl ho hp => hn id p (Nat.le_trans h1 hl) ho hp, fun id p ho hp hb => ?_⟩⟩
  by_cases hid : id < lk
  · have hg : (unlk M lk M').get id = M.get id := by
      show (canonM ⟨M.next, lk, M.get⟩ M').get id = M.get id
      rw [canon_get, if_pos hid]
    rw [hg] at ho
    exact ⟨id, p, ho, by rw [← b.phi0 id (Nat.lt_of_lt_of_le hid h2)]; exact hp, rfl, fun h => h⟩
  · obtain ⟨id', p', k1, k2, k3, k4⟩ := b.old id p ho hp hb
    exact ⟨id', p', k1, k2, k3, fun _ => Nat.le_trans h1 (k4 (by show lk ≤ id; omega))⟩
/-! ## A function that is told by a table of its closed runs -/
structure Ent where
  args : List AV
  lk : Nat
  objs : List AObj
  v : AV
  res : List AObj
noncomputable def deads (n : Nat) : List AObj := @Nat.rec (fun _ => List AObj) [] (fun _ ih => .dead :: ih) n
noncomputable def memE (lk : Nat) (objs : List AObj) : Mem := memL lk (deads lk ++ objs)
noncomputable def entOk (ev : List AV → Mem → T (AV × Mem)) (e : Ent) : Bool :=
  @Option.rec (AV × Mem) (fun _ => Bool) false (fun x => eqAV x.1 e.v && (Nat.beq x.2.next (e.lk + e.res.length) && eqObjs (highL e.lk x.2) e.res)) (oneT (ev e.args (memE e.lk e.objs)))
noncomputable def findE (els : T (AV × Mem)) (lk : Nat) (args : List AV) (objs : List AObj) (M : Mem) (tab : List Ent) : T (AV × Mem) :=
  @List.rec Ent (fun _ => T (AV × Mem)) els (fun e _ ih => bif2 (Nat.beq lk e.lk && (eqL1 args e.args && eqObjs objs e.objs)) (.ret (e.v, laid lk M.lock M.get e.res)) ih) tab
noncomputable def tabG (els : List AV → Nat → List AObj → T (AV × Mem)) (tab : List Ent) (args : List AV) (M : Mem) : T (AV × Mem) :=
  forceL args fun args => forceN (minR M args) fun lk => .ck (Nat.ble M.lock lk && Nat.ble lk M.next) (forceOs (fun k => M.get (lk + k)) (iota (Nat.sub M.next lk)) fun objs => findE (els args lk objs) lk args objs M tab)
/-- What the table does not tell is run. -/
noncomputable def tabS (ev : List AV → Mem → T (AV × Mem)) (tab : List Ent) (args : List AV) (M : Mem) : T (AV × Mem) := tabG (fun args _ _ => ev args M) tab args M
theorem findE_ok {els : T (AV × Mem)} {lk : Nat} {args : List AV} {objs : List AObj} {M : Mem} {Q : AV × Mem → Prop} {Qp : AV → Mem → Prop} (tab : List Ent) (h : (findE els lk args objs M tab).holds Q Qp) : (∃ e ∈ tab, lk = e.lk ∧ args = e.args ∧ objs = e.objs ∧ Q (e.v, laid lk M.lock M.get e.res)) ∨ els.holds Q Qp := by
  induction tab with
  | nil => exact .inr h
  | cons e tab ih =>
    have h : (bif2 (Nat.beq lk e.lk && (eqL1 args e.args && eqObjs objs e.objs)) (.ret (e.v, laid lk M.lock M.get e.res)) (findE els lk args objs M tab)).holds Q Qp := h
    rw [bif2_eq] at h
    split at h
    · rename_i hc
      obtain ⟨h1, hc⟩ := Bool.and_eq_true_iff.1 hc
      obtain ⟨h2, h3⟩ := Bool.and_eq_true_iff.1 hc
      exact .inl ⟨e, by simp, Nat.eq_of_beq_eq_true h1, eqL1_ok _ h2, eqObjs_ok _ h3, h⟩
    · rcases ih h with ⟨e', h1, h2⟩ | h
      · exact .inl ⟨e', by simp [h1], h2⟩
      · exact .inr h
theorem deads_eq (n : Nat) : deads n = List.replicate n .dead := by
  induction n with
  | zero => rfl
  | succ n ih => show AObj.dead :: deads n = _; rw [ih]; rfl
theorem entOk_some {ev : List AV → Mem → T (AV × Mem)} {e : Ent} (h : entOk ev e = true) : ∃ x, oneT (ev e.args (memE e.lk e.objs)) = some x ∧ x.1 = e.v ∧ x.2.next = e.lk + e.res.length ∧ highL e.lk x.2 = e.res := by
  unfold entOk at h
  cases ho : oneT (ev e.args (memE e.lk e.objs)) with
  | none => rw [ho] at h; cases h
  | some x =>
    rw [ho] at h
    obtain ⟨h1, h⟩ := Bool.and_eq_true_iff.1 (show (eqAV x.1 e.v && (Nat.beq x.2.next (e.lk + e.res.length) && eqObjs (highL e.lk x.2) e.res)) = true from h)
    obtain ⟨h2, h3⟩ := Bool.and_eq_true_iff.1 h
    exact ⟨x, rfl, eqAV_ok h1, Nat.eq_of_beq_eq_true h2, eqObjs_ok _ h3⟩
/-- What is dead below. -/
theorem rep_dead {N : NB} {φ : Phi} {M : Mem} {w : World} (hr : Rep N φ M w) (lk : Nat) : Rep N φ ⟨M.next, lk, fun j => if j < lk then .dead else M.get j⟩ w := by
  refine ⟨fun j => ?_, fun i j p q h1 h2 h3 h4 h5 => ?_, fun i p h1 h2 => ?_, fun i hi => ?_, hr.size⟩
  · show ObjRel N φ w j (if j < lk then .dead else M.get j)
    split
    · exact hr.glob
    · exact hr.objs j
  · have h1 : isOwn (if i < lk then .dead else M.get i) := h1
    have h2 : isOwn (if j < lk then .dead else M.get j) := h2
    split at h1
    · exact h1.elim
    · split at h2
      · exact h2.elim
      · exact hr.sep i j p q h1 h2 h3 h4 h5
  · have h1 : isOwn (if i < lk then .dead else M.get i) := h1
    split at h1
    · exact h1.elim
    · exact hr.high i p h1 h2
  · have := hr.fresh i hi
    refine ⟨?_, this.2⟩
    show (if i < lk then .dead else M.get i) = .dead
    split
    · rfl
    · exact this.1
theorem memE_eq {N : NB} {φ : Phi} {M : Mem} {w : World} (hr : Rep N φ M w) {lk : Nat} (hl : lk ≤ M.next) : memE lk ((iota (Nat.sub M.next lk)).map fun k => M.get (lk + k)) = ⟨M.next, lk, fun j => if j < lk then .dead else M.get j⟩ := by
  have hlen : (deads lk ++ (iota (Nat.sub M.next lk)).map fun k => M.get (lk + k)).length = M.next := by
    rw [deads_eq, iota_eq]
    simp only [List.length_append, List.length_replicate, List.length_map, List.length_range]
    show lk + (M.next - lk) = M.next
    omega
  unfold memE memL
  rw [hlen]
  congr 1
  funext j
  unfold nthO
  rw [nth?_eq, deads_eq, iota_eq]
  by_cases h : j < lk
  · rw [List.getElem?_append_left (by simpa using h), if_pos h]
    simp [List.getElem?_replicate, h]
  · rw [List.getElem?_append_right (by simp; omega), if_neg h]
    simp only [List.length_replicate, List.getElem?_map]
    by_cases h2 : j < M.next
    · rw [List.getElem?_range (by show j - lk < M.next - lk; omega)]
      show M.get (lk + (j - lk)) = M.get j
      congr 1; omega
    · rw [List.getElem?_eq_none (by simp only [List.length_map, List.length_range]; show M.next - lk ≤ j - lk; omega)]
      exact (hr.fresh j (by omega)).1.symm
theorem tabS_ok {P : Program} {N : NB} {ev : List AV → Mem → T (AV × Mem)} {f : FuncId} {tab : List Ent}
    (hb : ∀ args M Q Qp, (ev args M).holds Q Qp → ∀ φ w zs, Rep N φ M w → AVsRel φ args zs → Calls P f zs.toArray w fun e w' => (∃ v, e = .returned v ∧ Good N φ M w Q v w') ∨ (∃ v, e = .panicked [{ v, recovered := false }] ∧ GoodP N φ M w Qp v w'))
    (hall : ∀ e ∈ tab, entOk ev e = true) {args : List AV} {M : Mem} {Q : AV × Mem → Prop} {Qp : AV → Mem → Prop} (h : (tabS ev tab args M).holds Q Qp) (φ : Phi) (w : World) (zs : List Value) (hr : Rep N φ M w) (hz : AVsRel φ args zs) :
    Calls P f zs.toArray w fun e w' => (∃ v, e = .returned v ∧ Good N φ M w Q v w') ∨ (∃ v, e = .panicked [{ v, recovered := false }] ∧ GoodP N φ M w Qp v w') := by
  unfold tabS tabG at h
  rw [forceL_eq, forceN_eq] at h
  obtain ⟨hl, h⟩ := h
  obtain ⟨h1, h2⟩ := Bool.and_eq_true_iff.1 hl
  have h1 := Nat.le_of_ble_eq_true h1
  have h2 := Nat.le_of_ble_eq_true h2
  have h : (forceOs (fun k => M.get (minR M args + k)) (iota (Nat.sub M.next (minR M args))) fun objs => findE (ev args M) (minR M args) args objs M tab).holds Q Qp := h
  rw [forceOs_eq] at h
  generalize minR M args = lk at h h1 h2
  rcases findE_ok tab h with ⟨e, he, e1, e2, e3, hQ⟩ | h
  case inr => exact hb args M Q Qp h φ w zs hr hz
  obtain ⟨x, hx, x1, x2, x3⟩ := entOk_some (hall e he)
  rw [← e1, ← e2, ← e3, memE_eq hr h2] at hx
  rw [← e1] at x3
  have hq : Q (x.1, unlk M lk x.2) := by
    rw [x1]
    unfold unlk
    rw [x3]
    exact hQ
  refine calls_mono (hb args _ (· = x) (fun _ _ => False) (oneT_holds _ hx) φ w zs (rep_dead hr lk) hz) fun e w' ho => ?_
  rcases ho with ⟨v, he, φ', x', M', hq', hv, hr', hext⟩ | ⟨v, he, φ', x', M', hq', _⟩
  · have hq' : (x', M') = x := hq'
    subst hq'
    have hext' : Ext φ ⟨M.next, lk, M.get⟩ w φ' M' w' := by
      refine ⟨hext.phi, hext.phi0, hext.next, hext.lock, hext.os, hext.tape, hext.output, hext.size, fun b hb hn => hext.keep b hb fun id p hid ho hp => ?_, fun id p ho hp hlt => ?_⟩
      · have ho : isOwn (if id < lk then .dead else M.get id) := ho
        split at ho
        · exact ho.elim
        · exact hn id p hid ho hp
      · obtain ⟨id', p', k1, k2, k3, k4⟩ := hext.old id p ho hp hlt
        have k1 : isOwn (if id' < lk then .dead else M.get id') := k1
        split at k1
        · exact k1.elim
        · exact ⟨id', p', k1, k2, k3, k4⟩
    obtain ⟨a, c⟩ := unlk_ok hr h1 h2 hr' hext'
    exact .inl ⟨v, he, φ', x', _, hq, hv, a, c⟩
  · exact hq'.elim
/-- A contract by a table, over a contract. -/
theorem sOk_tabC {P : Program} {N : NB} {S R : Nat → Option (List AV → Mem → T (AV × Mem))} (hS : SOk P N S) (hR : SOk P N R) {f : FuncId} {ev : List AV → Mem → T (AV × Mem)} (hs : S f = some ev) {tab : List Ent}
    (hdir : ∀ args M Q Qp, (ev args M).holds Q Qp → (∃ fn c, P.funcs[f]? = some fn ∧ fn.body = some c ∧ (fn.name == "runtime.NumGoroutine") = false) ∧ ∀ φ w zs, Rep N φ M w → AVsRel φ args zs → Calls P f zs.toArray w fun e w' => (∃ v, e = .returned v ∧ Good N φ M w Q v w') ∨ (∃ v, e = .panicked [{ v, recovered := false }] ∧ GoodP N φ M w Qp v w'))
    (hbody : ∃ fn c, P.funcs[f]? = some fn ∧ fn.body = some c ∧ (fn.name == "runtime.NumGoroutine") = false)
    (hall : ∀ e ∈ tab, entOk ev e = true) : SOk P N (fun g => bif2 (Nat.beq g f) (some (tabS ev tab)) (R g)) := by
  intro g s hg args M Q Qp hq
  simp only [bif2_eq] at hg
  split at hg
  · rename_i hgf
    obtain rfl : g = f := Nat.eq_of_beq_eq_true hgf
    cases hg
    exact .inl ⟨hbody, fun φ w zs hr hz => tabS_ok (ev := ev) (fun args M Q Qp h => (hdir args M Q Qp h).2) hall hq φ w zs hr hz⟩
  · exact hR g s hg args M Q Qp hq
/-- A contract by a table, of whatever is told of a function. -/
theorem sOk_tabH {P : Program} {N : NB} {R : Nat → Option (List AV → Mem → T (AV × Mem))} (hR : SOk P N R) {f : FuncId} {fn : Func} {c : Code} (hf : P.funcs[f]? = some fn) (hbd : fn.body = some c) (hname : (fn.name == "runtime.NumGoroutine") = false) {ev : List AV → Mem → T (AV × Mem)}
    (hb : ∀ args M Q Qp, (ev args M).holds Q Qp → ∀ φ w zs, Rep N φ M w → AVsRel φ args zs → Calls P f zs.toArray w fun e w' => (∃ v, e = .returned v ∧ Good N φ M w Q v w') ∨ (∃ v, e = .panicked [{ v, recovered := false }] ∧ GoodP N φ M w Qp v w')) {tab : List Ent}
    (hall : ∀ e ∈ tab, entOk ev e = true) : SOk P N (fun g => bif2 (Nat.beq g f) (some (tabS ev tab)) (R g)) := by
  intro g s hg args M Q Qp hq
  simp only [bif2_eq] at hg
  split at hg
  · rename_i hgf
    obtain rfl : g = f := Nat.eq_of_beq_eq_true hgf
    cases hg
    exact .inl ⟨⟨fn, c, hf, hbd, hname⟩, fun φ w zs hr hz => tabS_ok hb hall hq φ w zs hr hz⟩
  · exact hR g s hg args M Q Qp hq
end Go.Eng
