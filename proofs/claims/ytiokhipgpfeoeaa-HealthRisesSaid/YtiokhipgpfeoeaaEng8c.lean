/- An evaluator of the code of the model, and lemmas of its proof of soundness: what it tells of a call, the call does; no condition but those that each lemma names. -/
import Derived.Test.YtiokhipgpfeoeaaEng8f
import Derived.LoopN
set_option linter.all false
set_option linter.deprecated false
set_option autoImplicit false
namespace Go.Eng
open Go Go.RowKit

def CodeOk (P : Program) (n : Nat) : Code → Prop
  | .region _ ops _ => ∀ o ∈ ops.toList, OpOk P n o
  | .seq a b => CodeOk P n a ∧ CodeOk P n b
  | .cond _ a b => CodeOk P n a ∧ CodeOk P n b
  | .block _ a => CodeOk P n a
  | .loop a => CodeOk P n a
  | _ => True
def exitOf : X → Exit
  | .normal => .normal
  | .exit id => .exit id
  | .ret => .ret

theorem onX_ok {x : Res} {f : Tmps → Mem → T Res} {e : Nat → T Res} {Q : Res → Prop} {Qp : AV → Mem → Prop} (h : (onX x f e).holds Q Qp) :
    (x.1 = .normal ∧ (f x.2.1 x.2.2).holds Q Qp) ∨ (∃ j, x.1 = .exit j ∧ (e j).holds Q Qp) ∨ (x.1 = .ret ∧ Q (.ret, x.2)) := by
  obtain ⟨x, st, M⟩ := x
  cases x with
  | normal => exact .inl ⟨rfl, h⟩
  | exit j => exact .inr (.inl ⟨j, rfl, h⟩)
  | ret => exact .inr (.inr ⟨rfl, h⟩)

theorem evCode_ok {P : Program} {tt : TT} (tok : TTok P tt) {N : Nat} {callF : FuncId → List AV → Mem → T (AV × Mem)} (hc : CallsOk P N callF) {roots : List AV} {keep : Keep} {L big n : Nat} (hmix : P.follows .mixedOrders = true) {ds : List Deferred} (c : Code) :
    ∀ {st : Tmps} {M : Mem} {φ : Phi} {w : World} {a : Act} {Q : Res → Prop} {Qp : AV → Mem → Prop} {QX : Exit → Act → World → Prop} (_ : (evCode P tt callF roots keep L big c st M).holds Q Qp) (_ : CodeOk P n c)
    (_ : StOk N n ds φ M w st a) (_ : ∀ x φ' M' w' st' a', Q (x, st', M') → StOk N n ds φ' M' w' st' a' → Ext φ M w φ' M' w' → QX (exitOf x) a' w') (_ : PanOk N ds φ M w Qp QX), c.wp P QX a w := by
  induction c with
  | skip => intro st M φ w a Q Qp QX h _ hs hq hp; exact wp_skip (hq .normal φ M w st a h hs (.refl _ _ _))
  | region id ops draw =>
    intro st M φ w a Q Qp QX h hok hs hq hp
    cases draw with
    | true =>
      have h : ((evDraw P tt callF big ops.toList st M).bind fun x => .ret (.normal, x.1, x.2)).holds Q Qp := h
      rw [T.holds_bind] at h
      exact evDraw_ok tok hc hmix hok h hs (fun φ' M' w' st' a' h1 h2 h3 => hq .normal φ' M' w' st' a' h1 h2 h3) hp
    | false =>
      have h : ((evOps P tt callF ops.toList ops.toList st M).bind fun x => .ret (.normal, x.1, x.2)).holds Q Qp := h
      rw [T.holds_bind] at h
      exact wp_region_list (evOps_ok tok hc hok ops.toList h hok hs (fun φ' M' w' st' a' h1 h2 h3 => hq .normal φ' M' w' st' a' h1 h2 h3) hp)
  | seq x y ihx ihy =>
    intro st M φ w a Q Qp QX h hok hs hq hp
    have h : ((evCode P tt callF roots keep L big x st M).bind fun r => onX r (evCode P tt callF roots keep L big y) fun j => .ret (.exit j, r.2)).holds Q Qp := h
    rw [T.holds_bind] at h
    refine wp_seq (ihx h hok.1 hs ?_ ?_)
    · intro r φ' M' w' st' a' h1 h2 h3
      rcases onX_ok h1 with ⟨e, h1⟩ | ⟨j, e, h1⟩ | ⟨e, h1⟩
      · obtain rfl : r = .normal := e
        exact ihy h1 hok.2 h2 (fun r φ2 M2 w2 st2 a2 k1 k2 k3 => hq r φ2 M2 w2 st2 a2 k1 k2 (h3.trans k3)) (hp.step h3)
      · obtain rfl : r = .exit j := e
        exact hq (.exit j) φ' M' w' st' a' h1 h2 h3
      · obtain rfl : r = .ret := e
        exact hq .ret φ' M' w' st' a' h1 h2 h3
    · exact fun v a' w' h1 h2 => hp v a' w' h1 h2
  | cond cnd x y ihx ihy =>
    intro st M φ w a Q Qp QX h hok hs hq hp
    obtain ⟨b, hb, h⟩ := onB_ok (show (onB (evA st cnd) fun b => .br b (evCode P tt callF roots keep L big x (setB cnd true st) M) (evCode P tt callF roots keep L big y (setB cnd false st) M)).holds Q Qp from h)
    have hx : b = true → (evCode P tt callF roots keep L big x st M).holds Q Qp := fun e => by
      have := h.1 e
      rw [setB_self (by rw [hb, e])] at this
      exact this
    have hy : b = false → (evCode P tt callF roots keep L big y st M).holds Q Qp := fun e => by
      have := h.2 e
      rw [setB_self (by rw [hb, e])] at this
      exact this
    have hv := evA_rel hs.tmps cnd
    rw [hb] at hv
    generalize hgv : a.eval cnd = cv at hv
    cases hv
    exact wp_cond_split hgv (fun e => ihx (hx e) hok.1 hs hq hp) (fun e => ihy (hy e) hok.2 hs hq hp)
  | block id x ih =>
    intro st M φ w a Q Qp QX h hok hs hq hp
    have h : ((evCode P tt callF roots keep L big x st M).bind fun r => onX r (fun st M => .ret (.normal, st, M)) fun j => bif2 (Nat.beq j id) (.ret (.normal, r.2)) (.ret (.exit j, r.2))).holds Q Qp := h
    rw [T.holds_bind] at h
    refine wp_block (ih h hok hs ?_ ?_)
    · intro r φ' M' w' st' a' h1 h2 h3
      rcases onX_ok h1 with ⟨e, h1⟩ | ⟨j, e, h1⟩ | ⟨e, h1⟩
      · obtain rfl : r = .normal := e
        exact hq .normal φ' M' w' st' a' h1 h2 h3
      · obtain rfl : r = .exit j := e
        show Exit.inBlock id QX (.exit j) a' w'
        simp only [Exit.inBlock]
        cases hj : Nat.beq j id with
        | true =>
          rw [hj] at h1
          rw [if_pos (Nat.eq_of_beq_eq_true hj)]
          exact hq .normal φ' M' w' st' a' h1 h2 h3
        | false =>
          rw [hj] at h1
          rw [if_neg (Nat.ne_of_beq_eq_false hj)]
          exact hq (.exit j) φ' M' w' st' a' h1 h2 h3
      · obtain rfl : r = .ret := e
        exact hq .ret φ' M' w' st' a' h1 h2 h3
    · exact fun v a' w' h1 h2 => hp v a' w' h1 h2
  | loop x ih =>
    intro st M φ w a Q Qp QX h hok hs hq hp
    refine wp_loop_rounds L ?_
    have h : (forceN M.next fun base => (@Nat.rec (fun _ => Tmps → Mem → T Res) (fun _ _ => .fail) (fun _ again st M => headF base roots keep st M fun st M => (evCode P tt callF roots keep L big x st M).bind fun r => onX r again fun j => .ret (.exit j, r.2)) L : Tmps → Mem → T Res) st M).holds Q Qp := h
    rw [forceN_eq] at h
    generalize hbase : M.next = base at h
    have key : ∀ (k : Nat) (st1 : Tmps) (M1 : Mem) (φ1 : Phi) (w1 : World) (a1 : Act), ((@Nat.rec (fun _ => Tmps → Mem → T Res) (fun _ _ => .fail) (fun _ again st M => headF base roots keep st M fun st M => (evCode P tt callF roots keep L big x st M).bind fun r => onX r again fun j => .ret (.exit j, r.2)) k : Tmps → Mem → T Res) st1 M1).holds Q Qp →
        StOk N n ds φ1 M1 w1 st1 a1 → Ext φ M w φ1 M1 w1 → Code.rounds P x QX k a1 w1 := by
      intro k
      induction k with
      | zero => intro st1 M1 φ1 w1 a1 h _ _; exact h.elim
      | succ k ihk =>
        intro st1 M1 φ1 w1 a1 h hs1 he1
        rw [rounds_succ]
        have h : (headF base roots keep st1 M1 fun st M => (evCode P tt callF roots keep L big x st M).bind fun r => onX r (@Nat.rec (fun _ => Tmps → Mem → T Res) (fun _ _ => .fail) (fun _ again st M => headF base roots keep st M fun st M => (evCode P tt callF roots keep L big x st M).bind fun r => onX r again fun j => .ret (.exit j, r.2)) k) fun j => .ret (.exit j, r.2)).holds Q Qp := h
        rw [headF_eq] at h
        obtain ⟨ρ, φ2, M2, h, hren, hr2, he2⟩ := compact_ok hs.rep hs1.rep he1 hbase.symm h
        rw [sealIf_eq hr2, T.holds_bind] at h
        have ht2 : TmpsRel φ2 (keepOnly keep.l fun t => ρ (keepOnly keep.l st1 t)) a1.tmps := keepOnly_rel keep.l fun t => hren _ _ (keepOnly_rel keep.l hs1.tmps t)
        refine ih h hok ⟨hr2, ht2, hs1.size, hs1.defers⟩ ?_ ?_
        · intro r φ' M' w' st' a' h1 h2 h3
          rcases onX_ok h1 with ⟨e, h1⟩ | ⟨j, e, h1⟩ | ⟨e, h1⟩
          · obtain rfl : r = .normal := e
            exact ihk st' M' φ' w' a' h1 h2 (he2.trans h3)
          · obtain rfl : r = .exit j := e
            exact hq (.exit j) φ' M' w' st' a' h1 h2 (he2.trans h3)
          · obtain rfl : r = .ret := e
            exact hq .ret φ' M' w' st' a' h1 h2 (he2.trans h3)
        · exact fun v a' w' h1 h2 => (hp.step he2) v a' w' h1 h2
    exact key L st M φ w a h hs (.refl _ _ _)
  | exit id => intro st M φ w a Q Qp QX h _ hs hq hp; exact wp_exit (hq (.exit id) φ M w st a h hs (.refl _ _ _))
  | ret => intro st M φ w a Q Qp QX h _ hs hq hp; exact wp_ret (hq .ret φ M w st a h hs (.refl _ _ _))
  | _ => intro st M φ w a Q Qp QX h; exact h.elim
end Go.Eng
