/- An evaluator of the code of the model, and lemmas of its proof of soundness: what it tells of a call, the call does; no condition but those that each lemma names. -/
import Derived.Test.YtiokhipgpfeoeaaEng8k
set_option linter.all false
set_option linter.deprecated false
set_option autoImplicit false
namespace Go.Eng
open Go Go.RowKit

theorem stA_ren {R : DR} {st0 : Tmps} {anc : Nat} (f : AV → AV) (x : Mem) (l : List Oper) : ∀ (k t : Nat), stA (fun k => (f (R k).1, x)) st0 anc l k t = f (stA R st0 anc l k t) ∨
    (stA (fun k => (f (R k).1, x)) st0 anc l k t = st0 t ∧ ∀ (i : Nat) (o : Oper), l[i]? = some o → o.dst ≠ some t) ∨ stA (fun k => (f (R k).1, x)) st0 anc l k t = .top := by
  induction l with
  | nil => intro k t; exact .inr (.inl ⟨rfl, by simp⟩)
  | cons o l ih =>
    intro k t
    have h : stA (fun k => (f (R k).1, x)) st0 anc (o :: l) k t = putA o.dst (stA (fun k => (f (R k).1, x)) st0 anc l (k + 1)) (bif2 (Nat.testBit anc k) (f (R k).1) .top) t := rfl
    have h' : stA R st0 anc (o :: l) k t = putA o.dst (stA R st0 anc l (k + 1)) (bif2 (Nat.testBit anc k) (R k).1 .top) t := rfl
    rw [h, h', putA_eq, putA_eq]
    cases hd : o.dst with
    | none =>
      rcases ih (k + 1) t with e | ⟨e, hno⟩ | e
      · exact .inl e
      · refine .inr (.inl ⟨e, fun i p hp => ?_⟩)
        cases i with
        | zero => simp only [List.getElem?_cons_zero, Option.some.injEq] at hp; subst hp; rw [hd]; simp
        | succ i => exact hno i p (by simpa using hp)
      · exact .inr (.inr e)
    | some d =>
      by_cases htd : t = d
      · simp only [if_pos htd, bif2_eq]
        split
        · exact .inl rfl
        · exact .inr (.inr rfl)
      · simp only [if_neg htd]
        rcases ih (k + 1) t with e | ⟨e, hno⟩ | e
        · exact .inl e
        · refine .inr (.inl ⟨e, fun i p hp => ?_⟩)
          cases i with
          | zero => simp only [List.getElem?_cons_zero, Option.some.injEq] at hp; subst hp; rw [hd]; intro e; exact htd (Option.some.inj e).symm
          | succ i => exact hno i p (by simpa using hp)
        · exact .inr (.inr e)
theorem putO_next {N : Nat} {φ : Phi} {w : World} {id n off : Nat} {o : AObj} (h : ObjRel N φ w id o) : ObjRel N φ w id (putO (topsL n) off o) := by
  cases o with
  | dead => trivial
  | ro a b c => exact h
  | vec a b c => exact h
  | own e rs cells =>
    obtain ⟨p, hp, h1, h2, h3, h4, h5⟩ := h
    refine ⟨p, hp, h1, h2, h3, by rw [setAt_len]; exact h4, fun j x hx => ?_⟩
    rcases setAt_spec _ _ _ _ _ hx with ⟨k1, k2⟩ | k1
    · have ht : ∀ (n : Nat) (y : AV), y ∈ topsL n → y = .top := by
        intro n
        induction n with
        | zero => intro y hy; cases hy
        | succ n ih => intro y hy; rcases List.mem_cons.1 (show y ∈ AV.top :: topsL n from hy) with rfl | hy
                       · rfl
                       · exact ih y hy
      have hlt : j < cells.length := by
        have := (List.getElem?_eq_some_iff.1 hx).1
        rwa [setAt_len] at this
      obtain ⟨z, hz, _⟩ := h5 j _ (List.getElem?_eq_getElem hlt)
      exact ⟨z, hz, by rw [ht n x (List.mem_of_getElem? k2)]; exact .top _⟩
    · exact h5 j x k1
theorem topO_rel {N : Nat} {φ : Phi} {w : World} {id : Nat} {o : AObj} (tg : List (Nat × Nat × Nat)) (h : ObjRel N φ w id o) : ObjRel N φ w id (topO tg id o) := by
  induction tg with
  | nil => exact h
  | cons t tg ih =>
    show ObjRel N φ w id (bif2 (Nat.beq t.1 id) (putO (topsL t.2.2) t.2.1 (topO tg id o)) (topO tg id o))
    rw [bif2_eq]
    split
    · exact putO_next ih
    · exact ih
theorem topO_own (tg : List (Nat × Nat × Nat)) {id : Nat} {o : AObj} : isOwn (topO tg id o) ↔ isOwn o := by
  induction tg with
  | nil => exact Iff.rfl
  | cons t tg ih =>
    show isOwn (bif2 (Nat.beq t.1 id) (putO (topsL t.2.2) t.2.1 (topO tg id o)) (topO tg id o)) ↔ _
    rw [bif2_eq]
    split
    · rw [putO_own]; exact ih
    · exact ih
theorem topO_dead (tg : List (Nat × Nat × Nat)) {id : Nat} : topO tg id .dead = .dead := by
  induction tg with
  | nil => rfl
  | cons t tg ih =>
    show bif2 (Nat.beq t.1 id) (putO (topsL t.2.2) t.2.1 (topO tg id .dead)) (topO tg id .dead) = .dead
    rw [bif2_eq, ih]
    split <;> rfl
theorem topM_same (tg : List (Nat × Nat × Nat)) (M : Mem) : (topM tg M).next = M.next ∧ (topM tg M).lock = M.lock ∧ ∀ id, isOwn ((topM tg M).get id) ↔ isOwn (M.get id) := by
  cases tg with
  | nil => exact ⟨rfl, rfl, fun _ => Iff.rfl⟩
  | cons t tg => exact ⟨rfl, rfl, fun id => topO_own (t :: tg)⟩
theorem topM_rep {N : Nat} {φ : Phi} {M : Mem} {w : World} (tg : List (Nat × Nat × Nat)) (h : Rep N φ M w) : Rep N φ (topM tg M) w := by
  obtain ⟨e1, e2, e3⟩ := topM_same tg M
  refine ⟨fun id => ?_, fun id id' p p' h1 h2 => h.sep id id' p p' ((e3 _).1 h1) ((e3 _).1 h2), fun id p h1 => h.high id p ((e3 _).1 h1), fun id hid => ?_, h.size⟩
  · cases tg with
    | nil => exact h.objs id
    | cons t tg => exact topO_rel (t :: tg) (h.objs id)
  · rw [e1] at hid
    obtain ⟨f1, f2⟩ := h.fresh id hid
    refine ⟨?_, f2⟩
    cases tg with
    | nil => exact f1
    | cons t tg => show topO (t :: tg) id (M.get id) = .dead; rw [f1]; exact topO_dead _
theorem Ext.untop {φ φ' : Phi} {M M' : Mem} {w w' : World} {tg : List (Nat × Nat × Nat)} (h : Ext φ (topM tg M) w φ' M' w') : Ext φ M w φ' M' w' := by
  obtain ⟨e1, e2, e3⟩ := topM_same tg M
  refine ⟨h.phi, fun id hid => h.phi0 id (by rw [e1]; exact hid), by rw [← e1]; exact h.next, h.lock.trans e2, h.os, h.tape, h.output, h.size, fun b hb hno => h.keep b hb fun id p h1 h2 => hno id p (by rw [← e2]; exact h1) ((e3 _).1 h2), fun id p h1 h2 h3 => ?_⟩
  obtain ⟨id', p', k1, k2, k3, k4⟩ := h.old id p h1 h2 h3
  exact ⟨id', p', (e3 _).1 k1, k2, k3, fun k => by rw [← e2]; exact k4 (by rw [e2]; exact k)⟩
section
variable {P : Program} {tt : TT} {callF : FuncId → List AV → Mem → T (AV × Mem)} {N n : Nat} {ds : List Deferred} {ops : Array Oper} {big : Nat} (tok : TTok P tt) (hc : CallsOk P N callF)
include tok hc
theorem evDraw_ok (hmix : P.follows .mixedOrders = true) (hall : ∀ o ∈ ops.toList, OpOk P n o) {Q : Tmps × Mem → Prop} {Qp : AV → Mem → Prop} {QX : Exit → Act → World → Prop} {id : Nat} {a : Act} {w : World} {φ : Phi} {st : Tmps} {M : Mem}
    (h : (evDraw P tt callF big ops.toList st M).holds Q Qp) (hs : StOk N n ds φ M w st a)
    (hq : ∀ φ' M' w' st' a', Q (st', M') → StOk N n ds φ' M' w' st' a' → Ext φ M w φ' M' w' → QX .normal a' w') (hp : PanOk N ds φ M w Qp QX) : (Code.region id ops true).wp P QX a w := by
  refine Code.wp_mono (Q := fun e a' w' => match e with
    | .normal => ∃ φ' M' st', Q (st', M') ∧ StOk N n ds φ' M' w' st' a' ∧ Ext φ M w φ' M' w'
    | .panic c => a'.defers = ds ∧ ∀ QX' : Exit → Act → World → Prop, PanOk N ds φ M w Qp QX' → ∀ a'', a''.defers = ds → QX' (.panic c) a'' w'
    | _ => False) ?_ ?_
  · intro e a' w' he
    cases e with
    | normal => obtain ⟨φ', M', st', h1, h2, h3⟩ := he; exact hq φ' M' w' st' a' h1 h2 h3
    | panic c => exact he.2 QX hp a' he.1
    | _ => exact he.elim
  clear hq hp
  have hq : ∀ φ' M' w' st' a', Q (st', M') → StOk N n ds φ' M' w' st' a' → Ext φ M w φ' M' w' → ∃ φ' M' st', Q (st', M') ∧ StOk N n ds φ' M' w' st' a' ∧ Ext φ M w φ' M' w' := fun φ' M' w' st' a' h1 h2 h3 => ⟨φ', M', st', h1, h2, h3⟩
  have hp : ∀ (v : Value) (a' : Act) (w' : World), a'.defers = ds → GoodP N φ M w Qp v w' → a'.defers = ds ∧ ∀ QX' : Exit → Act → World → Prop, PanOk N ds φ M w Qp QX' → ∀ a'', a''.defers = ds → QX' (.panic [{ v, recovered := false }]) a'' w' :=
    fun v a' w' hd hg => ⟨hd, fun QX' hp a'' hd' => hp v a'' w' hd' hg⟩
  obtain ⟨hb, h⟩ := ck_ok h
  rw [masksK_eq, forceN_eq] at h
  obtain ⟨he, hb⟩ := Bool.and_eq_true_iff.1 hb
  obtain ⟨hd, hbig⟩ := Bool.and_eq_true_iff.1 hb
  obtain ⟨hbig, hsel⟩ := Bool.and_eq_true_iff.1 hbig
  have hsel : Region.noSelect ops = true := by
    unfold Region.noSelect
    rw [← Array.all_toList]
    exact hsel
  have hbig : 0 < big := Nat.le_of_ble_eq_true hbig
  have hm := maskOk he
  rw [T.holds_bind] at h
  generalize split ops.toList (masks ops.toList 0 fun _ => 0) ops.toList 0 0 = m at *
  have hlen : ops.toList.length = ops.size := Array.length_toList
  obtain ⟨R, F, G, hend, _, hGn, hR⟩ := drawGo_ok hm.lt _ (fun _ _ => rfl) h
  generalize htg : preT tt M st ops.toList (ops.toList.take m) = tg at *
  obtain ⟨e1, e2, e3⟩ := topM_same tg M
  obtain ⟨hlate, hend⟩ := ck_ok hend
  obtain ⟨hms, hlate⟩ := Bool.and_eq_true_iff.1 hlate
  have hms : m ≤ ops.size := by have := Nat.le_of_ble_eq_true hms; omega
  have hsp : ∀ i, m ≤ i → i < ops.size → ∀ u, u < i → Nat.testBit (masks ops.toList 0 (fun _ => 0) i) u = true ∨ (u < m ∧ PureAt ops (masks ops.toList 0 fun _ => 0) st R G u) := by
    intro i h1 h2 u h3
    have hl := lateAll_spec _ hlate (k := i - m) (by rw [List.length_drop]; omega)
    rw [show m + (i - m) = i by omega] at hl
    have hu : ops[u]? = some ops[u] := Array.getElem?_eq_getElem (by omega)
    have := lateV_spec _ hl (k := u) (o := ops[u]) (by simpa using hu) (by omega)
    rw [Nat.zero_add] at this
    rcases this with h4 | ⟨h4, h5, h6⟩
    · exact .inl h4
    · have hF := hR u ops[u] (by rw [List.getElem?_take, if_pos h4]; simpa using hu)
      rw [Nat.zero_add] at hF
      rcases hF with ⟨hGu, _, _, hF⟩ | ⟨_, _, hF⟩
      · exact .inr ⟨h4, _, hu, hGu, h5, hF h6⟩
      · have h6 : F u = true := h6
        rw [hF] at h6; cases h6
  have hrep0 : Rep N φ (topM tg M) w.drew := topM_rep tg hs.rep.draw
  have hin : ∀ k g, G k = some g → k < m ∧ k < ops.size := fun k g hk => by
    rcases Nat.lt_or_ge k (0 + (ops.toList.take m).length) with h1 | h1
    · rw [List.length_take] at h1; omega
    · rw [hGn k h1] at hk; cases hk
  have gok : GOk (topM tg M) φ w.drew G := by
    refine ⟨fun k id off l hG => ?_, fun k k' id off l off' l' hkk hG hG' => ?_⟩
    · obtain ⟨hkm, hks⟩ := hin k _ hG
      have hku : ops[k]? = some ops[k] := Array.getElem?_eq_getElem hks
      have := hR k ops[k] (by rw [List.getElem?_take, if_pos hkm]; simpa using hku)
      rw [Nat.zero_add] at this
      rcases this with ⟨hGu, _⟩ | ⟨hf, _, _⟩
      · rw [hGu] at hG; cases hG
      · obtain ⟨t, x, y, id', r, c, e, rs, cells, o1, o2, o3, hb, hx, hg, hG2, k1, k2, k3, k4, k5, k6, k7⟩ := hf.ex
        rw [hG] at hG2; cases hG2
        have hob := hrep0.objs id
        rw [hg] at hob
        obtain ⟨p, hp, ⟨q1, q2⟩, q3, q4, q5, _⟩ := hob
        exact ⟨p, e, rs, cells, hp, hg, own_lt hrep0 (by rw [hg]; trivial) hp, q1, q2, q3, q5, by rw [k4]; exact k5, by rw [k4]; exact k6, k2, k1, k3⟩
    · obtain ⟨hkm, hks⟩ := hin k' _ hG'
      have hku : ops[k']? = some ops[k'] := Array.getElem?_eq_getElem hks
      have := hR k' ops[k'] (by rw [List.getElem?_take, if_pos hkm]; simpa using hku)
      rw [Nat.zero_add] at this
      rcases this with ⟨hGu, _⟩ | ⟨hf, _, _⟩
      · rw [hGu] at hG'; cases hG'
      · obtain ⟨t, x, y, id', r, c, e, rs, cells, o1, o2, o3, hb, hx, hg, hG2, k1, k2, k3, k4, k5, k6, k7⟩ := hf.ex
        rw [hG'] at hG2; cases hG2
        have := k7 k hkk off' l' hG
        rw [k4]; exact this
  refine wp_region_any hmix (draw_any (Q := Q) (Qp := Qp) (ds := ds) (M0 := topM tg M) (st0 := st) (φ0 := φ) (w0 := w.drew) (R := R) (G := G) (mk := masks ops.toList 0 fun _ => 0) tok hc hall hm hd hbig hms hsp hsel ?_ gok ?_ ?_ ?_ ?_ ops.size _ a _ (by simp) (unl_init _) (.inl ⟨φ, ?_⟩))
  · intro d v c a' w' hx
    exact ⟨(put_defers ..).symm.trans hx.1, hx.2⟩
  · intro j o hj ho
    have := hR j o (by rw [List.getElem?_take, if_pos hj]; simpa using ho)
    rw [Nat.zero_add] at this
    rcases this with ⟨h1, h2, h3, _⟩ | ⟨h1, h2, _⟩
    · exact .inl ⟨h1, h2, h3⟩
    · exact .inr ⟨h1, h2⟩
  · intro φ2 a2 w2 h1 h2 h3
    unfold drawEnd at hend
    rw [compactU_eq] at hend
    obtain ⟨f, φ3, M3, k1, k2, k3, k4⟩ := compact_ok hrep0 h1.rep h2 rfl hend
    rw [seal_eq k3] at k1
    refine ⟨φ3, _, M3, k1, ⟨k3, fun t => ?_, h1.size, h1.defers⟩, k4⟩
    rcases stA_ren (R := R) (st0 := st) (anc := Nat.sub (Nat.pow 2 m) 1) f (topM tg M) (ops.toList.take m) 0 t with e | ⟨e, hno⟩ | e
    · rw [e]; exact k2 _ _ (h1.tmps t)
    · rw [e]
      exact (h3 t fun k o hk ho => hno k o (by rw [List.getElem?_take, if_pos hk]; simpa using ho)).mono k4.phi
    · rw [e]; exact .top _
  · intro φ' M' w' st' a' h1 h2 h3
    exact hq φ' M' w' st' a' h1 h2 ((Ext.draw φ M w).trans h3.untop)
  · intro v a' w' hd' hg
    obtain ⟨φ2, x2, M2, g1, g2, g3, g4⟩ := hg
    exact hp v a' w' hd' ⟨φ2, x2, M2, g1, g2, g3, (Ext.draw φ M w).trans g4.untop⟩
  · have hno : ∀ k, ¬ (Array.replicate ops.size false).getD k false = true := by
      intro k
      by_cases hk : k < ops.size <;> simp [Array.getD_eq_getD_getElem?, hk]
    refine ⟨fun _ _ => rfl, fun id hid hne => absurd ((hrep0.fresh id hid).2) hne, fun k hk => absurd hk (hno k), fun k hk => absurd hk (hno k), fun k hk => absurd hk (hno k), fun t _ => hs.tmps t, ?_, hrep0, fun _ _ _ => rfl, fun k hk => absurd hk (hno k), rfl, rfl, rfl, Nat.le_refl _, hs.size, hs.defers, ?_, fun k hk => absurd hk (hno k)⟩
    · intro id id' p p' ho ho' hp1 hp2 e
      rcases ho with ⟨_, h1⟩ | ⟨_, h1, _⟩
      · rcases ho' with ⟨_, h2⟩ | ⟨_, h2, _⟩
        · exact hrep0.sep id id' p p' h1 h2 hp1 hp2 e
        · exact absurd h2 (hno _)
      · exact absurd h1 (hno _)
    · intro id p hid ho hp1
      rcases ho with ⟨h1, _⟩ | ⟨_, h1, _⟩
      · omega
      · exact absurd h1 (hno _)
end
end Go.Eng
