/- An evaluator of the code of the model, and lemmas of its proof of soundness: what it tells of a call, the call does; no condition but those that each lemma names. -/
import Derived.Test.YtiokhipgpfeoeaaEng8d
set_option linter.all false
set_option linter.deprecated false
set_option autoImplicit false
namespace Go.Eng
open Go Go.RowKit
theorem forceN_eq {R : Type} (n : Nat) (k : Nat → R) : forceN n k = k n := by cases n <;> rfl
theorem masksK_eq {β : Type} (l : List Oper) : ∀ (j : Nat) (mk : Nat → Nat) (k : (Nat → Nat) → T β), masksK l j mk k = k (masks l j mk) := by
  induction l with
  | nil => intro j mk k; rfl
  | cons o l ih =>
    intro j mk k
    show (forceN (ancOf mk o.after.toList) fun m => masksK l (j + 1) (upd mk j m) k) = _
    rw [forceN_eq, ih]; rfl

theorem lateV_spec {all : List Oper} {mk : Nat → Nat} {st0 : Tmps} {R : DR} {m i : Nat} (l : List Oper) : ∀ {u : Nat} (_ : lateV all mk st0 R m i l u = true) {k : Nat} {o : Oper} (_ : l[k]? = some o) (_ : u + k < i),
    Nat.testBit (mk i) (u + k) = true ∨ (u + k < m ∧ pv0 all (u + k) o = true ∧ pureV (stA R st0 (mk (u + k)) all 0) o.op = true) := by
  induction l with
  | nil => intro u _ k o h; simp at h
  | cons p l ih =>
    intro u h k o hk hlt
    have h : bif2 (Nat.blt u i) (bif2 (Nat.testBit (mk i) u) (lateV all mk st0 R m i l (u + 1)) (bif2 (Nat.blt u m && (pv0 all u p && pureV (stA R st0 (mk u) all 0) p.op)) (lateV all mk st0 R m i l (u + 1)) false)) true = true := h
    have hui : Nat.blt u i = true := (by have : u < i := by omega
                                         simpa [Nat.blt_eq] using this)
    rw [bif2_eq, if_pos hui, bif2_eq] at h
    have step : lateV all mk st0 R m i l (u + 1) = true → 0 < k → Nat.testBit (mk i) (u + k) = true ∨ (u + k < m ∧ pv0 all (u + k) o = true ∧ pureV (stA R st0 (mk (u + k)) all 0) o.op = true) := by
      intro h h0
      obtain ⟨k, rfl⟩ : ∃ q, k = q + 1 := ⟨k - 1, by omega⟩
      have := ih h (k := k) (o := o) (by simpa using hk) (by omega)
      rwa [show u + 1 + k = u + (k + 1) by omega] at this
    split at h
    · rename_i hb
      rcases Nat.eq_zero_or_pos k with e | e
      · subst e; exact .inl hb
      · exact step h e
    · rw [bif2_eq] at h
      split at h
      · rename_i hb
        rcases Nat.eq_zero_or_pos k with e | e
        · subst e
          have hp : p = o := by simpa using hk
          subst hp
          obtain ⟨h1, h2⟩ := Bool.and_eq_true_iff.1 hb
          obtain ⟨h2, h3⟩ := Bool.and_eq_true_iff.1 h2
          exact .inr ⟨by simpa [Nat.blt_eq] using h1, h2, h3⟩
        · exact step h e
      · cases h
theorem lateAll_spec {all : List Oper} {mk : Nat → Nat} {st0 : Tmps} {R : DR} {m : Nat} (l : List Oper) : ∀ {i : Nat} (_ : lateAll all mk st0 R m l i = true) {k : Nat} (_ : k < l.length), lateV all mk st0 R m (i + k) all 0 = true := by
  induction l with
  | nil => intro i _ k h; simp at h
  | cons p l ih =>
    intro i h k hk
    have h : bif2 (lateV all mk st0 R m i all 0) (lateAll all mk st0 R m l (i + 1)) false = true := h
    rw [bif2_eq] at h
    split at h
    · rename_i hb
      rcases Nat.eq_zero_or_pos k with e | e
      · subst e; exact hb
      · obtain ⟨k, rfl⟩ : ∃ q, k = q + 1 := ⟨k - 1, by omega⟩
        have := ih h (k := k) (by simpa using hk)
        rwa [show i + 1 + k = i + (k + 1) by omega] at this
    · cases h

theorem unl_step (l : List Nat) (hn : l.Nodup) (f g : Nat → Bool) (i : Nat) (hi : i ∈ l) (hf : f i = true) (hg : g i = false) (he : ∀ k, k ≠ i → g k = f k) : (l.filter g).length + 1 = (l.filter f).length := by
  induction l with
  | nil => cases hi
  | cons x l ih =>
    rw [List.nodup_cons] at hn
    rcases List.mem_cons.1 hi with rfl | hi
    · have : l.filter g = l.filter f := List.filter_congr fun k hk => he k fun e => hn.1 (e ▸ hk)
      rw [List.filter_cons, List.filter_cons, hf, hg, this]; simp
    · have hx : x ≠ i := fun e => hn.1 (e ▸ hi)
      rw [List.filter_cons, List.filter_cons, he x hx]
      cases f x <;> simp [ih hn.2 hi]
def unl (n : Nat) (listed : Array Bool) : Nat := ((List.range n).filter fun k => !listed.getD k true).length
theorem unl_set {n : Nat} {listed : Array Bool} {i : Nat} (hi : i < n) (hs : listed.size = n) (h : listed.getD i true = false) : unl n (listed.setIfInBounds i true) + 1 = unl n listed := by
  unfold unl
  refine unl_step _ List.nodup_range _ _ i (by simpa using hi) (by simp [h]) ?_ fun k hk => ?_
  · simp [hs, hi]
  · rw [getD_set_ne true (Ne.symm hk)]
theorem unl_zero {n : Nat} {listed : Array Bool} (h : unl n listed = 0) : ∀ k, k < n → listed.getD k true = true := by
  intro k hk
  cases hb : listed.getD k true with
  | true => rfl
  | false =>
    have hm : k ∈ (List.range n).filter fun k => !listed.getD k true := List.mem_filter.2 ⟨by simpa using hk, by simp only [hb]; rfl⟩
    have := List.length_pos_of_mem hm
    unfold unl at h; omega
theorem getD_tf {listed : Array Bool} {k n : Nat} (hs : listed.size = n) (hk : k < n) : listed.getD k true = listed.getD k false := by
  simp only [Array.getD_eq_getD_getElem?]
  rw [Array.getElem?_eq_getElem (by omega)]; rfl
theorem getD_out {listed : Array Bool} {k n : Nat} (hs : listed.size = n) (hk : n ≤ k) : listed.getD k false = false := by
  simp only [Array.getD_eq_getD_getElem?]
  rw [Array.getElem?_eq_none (by omega)]; rfl
theorem unl_init (n : Nat) : unl n (Array.replicate n false) = n := by
  unfold unl
  have : ((List.range n).filter fun k => !(Array.replicate n false).getD k true) = List.range n := by
    refine List.filter_eq_self.2 fun k hk => ?_
    have hk : k < n := by simpa using hk
    simp [Array.getD_eq_getD_getElem?, hk]
  rw [this]; simp

section
variable {P : Program} {tt : TT} {callF : FuncId → List AV → Mem → T (AV × Mem)} {N n : Nat} {ds : List Deferred} {ops : Array Oper} {mk : Nat → Nat} {big : Nat} {M0 : Mem} {st0 : Tmps} {φ0 : Phi} {w0 : World} {m : Nat} {R : DR}

/-- The first part is done. -/
theorem DInv.finish (hbig : 0 < big) {listed : Nat → Prop} {φ : Phi} {w : World} {a : Act} (h : DInv N n ds ops mk big M0 st0 φ0 w0 m R listed φ w a) (hl : ∀ k, k < m → listed k) :
    StOk N n ds φ ⟨M0.next + m * big, M0.lock, (memA M0 big R (Nat.sub (Nat.pow 2 m) 1) 0).get⟩ w (stA R st0 (Nat.sub (Nat.pow 2 m) 1) (ops.toList.take m) 0) a ∧
      Ext φ0 M0 w0 φ ⟨M0.next + m * big, M0.lock, (memA M0 big R (Nat.sub (Nat.pow 2 m) 1) 0).get⟩ w := by
  have hbit : ∀ k, Nat.testBit (Nat.sub (Nat.pow 2 m) 1) k = true ↔ k < m := by
    intro k
    show Nat.testBit (2 ^ m - 1) k = true ↔ _
    rw [Nat.testBit_two_pow_sub_one]; simp
  have h0 : ∀ id, M0.next ≤ id → φ0 id = none := fun id hid => (h.i6.fresh id hid).2
  have hle : PhiLe φ0 φ := fun id x e => by
    rcases Nat.lt_or_ge id M0.next with h1 | h1
    · rw [h.i1 id h1]; exact e
    · rw [h0 id h1] at e; cases e
  have hget : ∀ id, (memA M0 big R (Nat.sub (Nat.pow 2 m) 1) 0).get id = if id < M0.next then M0.get id else if ow M0 big id < m then (R (ow M0 big id)).2.get id else .dead := by
    intro id
    rw [memA_get]
    by_cases h1 : id < M0.next
    · rw [if_pos h1, if_pos h1]
    · rw [if_neg h1, if_neg h1]
      by_cases h2 : ow M0 big id < m
      · rw [if_pos h2, if_pos ((hbit _).2 h2)]
      · rw [if_neg h2, if_neg (fun e => h2 ((hbit _).1 e))]
  have toS : ∀ id, isOwn ((memA M0 big R (Nat.sub (Nat.pow 2 m) 1) 0).get id) → ownS M0 big R listed id := by
    intro id ho
    rw [hget] at ho
    split at ho
    · exact .inl ⟨by assumption, ho⟩
    · split at ho
      · rename_i h1 h2; exact .inr ⟨by omega, hl _ h2, ho⟩
      · exact ho.elim
  refine ⟨⟨⟨fun id => ?_, fun id id' p p' ho ho' hp hp' e => h.i5 id id' p p' (toS id ho) (toS id' ho') hp hp' e, fun id p ho hp => ?_, fun id hid => ?_, h.i6.size⟩, fun t => ?_, h.size, h.defers⟩,
    ⟨hle, h.i1, by simp, rfl, h.os, h.tape, h.output, h.wsize, fun b hb _ => h.keep b hb, fun id p ho hp hb => ?_⟩⟩
  · show ObjRel N φ w id ((memA M0 big R (Nat.sub (Nat.pow 2 m) 1) 0).get id)
    rw [hget]
    split
    · exact (h.i6.objs id).step hle (fun _ _ => rfl) (fun _ _ _ => rfl)
    · split
      · rename_i h1 h2
        exact ((h.ir _ (hl _ h2)).objs id).step restr_le' (fun _ _ => rfl) (fun _ _ _ => rfl)
      · trivial
  · have hs := toS id ho
    rcases hs with ⟨h1, h2⟩ | ⟨h1, h2, h3⟩
    · rw [h.i1 id h1] at hp; exact h.i6.high id p h2 hp
    · refine (h.ir _ h2).high id p h3 ?_
      rw [restr_of (.inr (.inl rfl))]; exact hp
  · have hid : M0.next + m * big ≤ id := hid
    have h1 : ¬ id < M0.next := by omega
    have h2 : ¬ ow M0 big id < m := by
      intro hlt
      rw [ow_lt hbig] at hlt
      omega
    refine ⟨by show (memA M0 big R (Nat.sub (Nat.pow 2 m) 1) 0).get id = .dead; rw [hget, if_neg h1, if_neg h2], ?_⟩
    cases hφ : φ id with
    | none => rfl
    | some x => exact absurd (h.im _ (h.i2 id (by omega) (by rw [hφ]; simp))) h2
  · rcases stA_spec (R := R) (st0 := st0) (anc := Nat.sub (Nat.pow 2 m) 1) (ops.toList.take m) 0 t with ⟨i, o, ho, hdt, hv⟩ | ⟨hno, hv⟩
    · rw [hv]
      rw [List.getElem?_take] at ho
      split at ho
      · rename_i him
        rw [if_pos (by rw [Nat.zero_add]; exact (hbit i).2 him), Nat.zero_add]
        exact (h.iv i (hl i him) o t (by simpa using ho) hdt).mono restr_le'
      · cases ho
    · rw [hv]
      refine (h.i4 t fun k o hk ho => hno k o ?_).mono hle
      rw [List.getElem?_take, if_pos (h.im k hk)]
      simpa using ho
  · rcases toS id ho with ⟨h1, h2⟩ | ⟨h1, h2, h3⟩
    · exact ⟨id, p, h2, by rw [← h.i1 id h1]; exact hp, rfl, fun h => h⟩
    · have := h.i9 id p h1 (.inr ⟨h1, h2, h3⟩) hp
      omega

variable (tok : TTok P tt) (hc : CallsOk P N callF)
include tok hc

/-- Operation j, in the first part. -/
theorem draw_step (hall : ∀ o ∈ ops.toList, OpOk P n o) (hm : MaskOk ops.toList mk) (hd : dstsOk ops.toList = true) (hbig : 0 < big) {listed : Nat → Prop} {φ : Phi} {w : World} {a : Act} (h : DInv N n ds ops mk big M0 st0 φ0 w0 m R listed φ w a)
    {j : Nat} (hj : j < m) {o : Oper} (ho : ops[j]? = some o) (hnl : ¬ listed j) (hanc : ∀ i, Nat.testBit (mk j) i = true → listed i)
    (hop : (drawOp P tt callF ops.toList (memA M0 big R (mk j) j) (stA R st0 (mk j) ops.toList 0) o).holds (· = R j) (fun _ _ => False)) (hnext : (R j).2.next ≤ M0.next + (j + 1) * big) {QX : Exit → Act → World → Prop} {K : Act → World → Prop}
    (hK : ∀ φn w' a', DInv N n ds ops mk big M0 st0 φ0 w0 m R (fun k => listed k ∨ k = j) φn w' a' → K a' w') : wpOp P ops QX j K a w := by
  have hA := h.repA hm hbig hanc
  have hT := h.tmpsA hm hd hanc
  have hoo := hall o (by rw [Array.mem_toList_iff]; exact Array.mem_of_getElem? ho)
  have key : ∀ v w', Good N (restr φ (domA mk M0 big j)) (memA M0 big R (mk j) j) w (· = R j) v w' → K (a.put o.dst v) w' := by
    intro v w' hg
    obtain ⟨φn, hn⟩ := h.after hm hd hbig hj ho hoo.1 hnl hanc hnext hg
    exact hK φn w' _ hn
  have go : (evOp ⟨P, tt, callF, memA M0 big R (mk j) j, stA R st0 (mk j) ops.toList 0⟩ o.op).holds (· = R j) (fun _ _ => False) → o.wp P a w K QX := by
    intro hh
    have hout := evOp_ok (K := ⟨P, tt, callF, memA M0 big R (mk j) j, stA R st0 (mk j) ops.toList 0⟩) rfl tok hc hA hT o hh hoo.2
    unfold Oper.wp
    rcases hout with ⟨v, w', hrun, hg⟩ | ⟨v, w', hrun, hg⟩ | ⟨f, args, w', hrun, hcalls⟩
    · rcases hrun with hrun | ⟨hrun, hv⟩
      · rw [hrun]; exact key v w' hg
      · rw [hrun]; subst hv; exact key _ w' hg
    · obtain ⟨_, _, _, hF, _⟩ := hg; exact hF.elim
    · rw [hrun]
      refine Calls.mono hcalls ?_
      intro e w'' he
      rcases he with ⟨v, rfl, hg⟩ | ⟨v, rfl, hg⟩
      · exact key v w'' hg
      · obtain ⟨_, _, _, hF, _⟩ := hg; exact hF.elim
  have skip : (AV.v undef, memA M0 big R (mk j) j) = R j → K (a.put o.dst undef) w := fun e => key undef w (.here hA e (.v _))
  unfold wpOp
  simp only [ho]
  rcases drawOp_ok hop with ⟨hg, hh⟩ | ⟨g, want, p, d, hg, hp, hdp, hh⟩
  · rw [if_pos (by simp [Region.wanted, hg])]
    exact .inl (go hh)
  · have hpok := hall p (List.mem_of_getElem? hp)
    have hlt : d < a.tmps.size := by rw [h.size]; exact hpok.1 d hdp
    obtain ⟨y1, y2⟩ := yielded_rel hT hp hdp hlt
    rcases hh with ⟨b, hb, h1, h2⟩ | ⟨h1, h2, h3, h4⟩
    · have hy := y1 b hb
      by_cases e : b = want
      · rw [if_pos (by simp [Region.wanted, hg, hy, e])]
        exact .inl (go (h1 e))
      · rw [if_neg (by simp [Region.wanted, hg, hy, e])]
        exact skip (h2 e)
    · rw [if_neg (by simp [Region.wanted, hg, y2 h1 h2 h3])]
      exact skip h4

omit hc in
/-- What is told by slots alone yields the same in any world. -/
theorem pure_yields {N' : Nat} {φ : Phi} {A : Mem} {w : World} {st : Tmps} {a : Act} (hr : Rep N' φ A w) (hT : TmpsRel φ st a.tmps) {o : Oper} {r : AV × Mem} (hg : o.guard = none) (hp : pureV st o.op = true)
    (hop : (evOp ⟨P, tt, callF, A, st⟩ o.op).holds (· = r) (fun _ _ => False)) : ∃ v, Yields P ops o v a ∧ Good N' φ A w (· = r) v w := by
  have mkY : ∀ v, (∀ w, (execOp a.eval o).run P w = .ok (.value v) w) → Yields P ops o v a := fun v h => .inl ⟨by simp [Region.wanted, hg], h⟩
  cases ho : o.op with
  | move x =>
    rw [ho] at hop
    exact ⟨a.eval x, mkY _ (fun w => by unfold execOp; rw [ho]; rfl), .here hr hop (evA_rel hT x)⟩
  | assign x =>
    rw [ho] at hop
    exact ⟨a.eval x, mkY _ (fun w => by unfold execOp; rw [ho]; rfl), .here hr hop (evA_rel hT x)⟩
  | extract t ix =>
    rw [ho] at hop
    obtain ⟨l, hl, h⟩ := onTup_ok (show (onTup (evA st t) fun l => (sel l ix).bind fun v => .ret (v, A)).holds (· = r) (fun _ _ => False) from hop)
    rw [T.holds_bind] at h
    obtain ⟨v, hv, hq⟩ := sel_ok h
    have ht := evA_rel hT t
    rw [hl] at ht
    generalize hgv : a.eval t = tv at ht
    cases ht with
    | tup _ vs hrel =>
      obtain ⟨z, hz, hzr⟩ := hrel.get _ _ hv
      have hz : vs[ix]? = some z := by simpa using hz
      exact ⟨z, mkY _ (fun w => by unfold execOp; rw [ho]; simp [hgv, Instr.extract, hz]), .here hr hq hzr⟩
  | binOp op t x y yt =>
    rw [ho] at hop hp
    obtain ⟨hb, h⟩ := onK_both (show (onK (tt t).u (evBin P tt A op t x y (evA st x) (evA st y)) (evBin P tt A op t x y (evA st x) (evA st y))).holds (· = r) (fun _ _ => False) from hop)
    obtain ⟨h1, h2⟩ := Bool.and_eq_true_iff.1 (show (isIA (evA st x) && isIA (evA st y)) = true from hp)
    have hu := evA_rel hT x
    have hv := evA_rel hT y
    generalize hgx : evA st x = xa at *
    generalize hgy : evA st y = ya at *
    have plain : (retM A (binA P (tt t).kind op t x y xa ya)).holds (· = r) (fun _ _ => False) := by
      cases xa with
      | i k n => cases ya <;> first | exact h | cases h2
      | b n => cases ya <;> first | exact h | cases h2
      | _ => cases h1
    have hany : ∀ w, Val P φ w (fun v => (v, A) = r) (do eqGuard op t x y (a.eval x) (a.eval y); binOp op t (a.eval x) (a.eval y)) := fun w => binA_ok tok hb hu hv (retM_ok plain)
    obtain ⟨z, xr, hrun, hxr, hz⟩ := hany w
    have hxi : isIA xr = true := by
      have hk : (binA P (tt t).kind op t x y xa ya).holds (fun v => isIA v = true) (fun _ _ => False) := by
        cases xa with
        | i k n =>
          cases ya with
          | i k' n' =>
            have hh : (bif2 (isSh op) (binI op k n n') (.br (decide (k = k')) (binI op k n n') .fail) : T AV).holds (fun v => (v, A) = r) (fun _ _ => False) := retM_ok plain
            show (bif2 (isSh op) (binI op k n n') (.br (decide (k = k')) (binI op k n n') .fail) : T AV).holds (fun v => isIA v = true) (fun _ _ => False)
            have bi : (binI op k n n').holds (fun v => (v, A) = r) (fun _ _ => False) → (binI op k n n').holds (fun v => isIA v = true) (fun _ _ => False) := by
              intro hq
              cases op with
              | quo => exact ⟨fun e => (hq.1 e).elim, fun _ => rfl⟩
              | rem => exact ⟨fun e => (hq.1 e).elim, fun _ => rfl⟩
              | shl => exact ⟨fun e => (hq.1 e).elim, fun _ => rfl⟩
              | shr => exact ⟨fun e => (hq.1 e).elim, fun _ => rfl⟩
              | _ => exact rfl
            rw [bif2_eq] at hh ⊢
            split
            · rename_i e; rw [if_pos e] at hh; exact bi hh
            · rename_i e; rw [if_neg e] at hh
              exact ⟨fun e => bi (hh.1 e), fun e => hh.2 e⟩
          | b n' => exact (retM_ok plain).elim
          | _ => cases h2
        | b n =>
          cases ya with
          | b n' =>
            have hh : (binB (tt t).kind op n n').holds (fun v => (v, A) = r) (fun _ _ => False) := retM_ok plain
            show (binB (tt t).kind op n n').holds (fun v => isIA v = true) (fun _ _ => False)
            cases hc : (tt t).kind with
            | bool =>
              rw [hc] at hh
              cases op with
              | eql => exact rfl
              | neq => exact rfl
              | _ => exact hh.elim
            | _ => rw [hc] at hh; exact hh.elim
          | i k' n' => exact (retM_ok plain).elim
          | _ => cases h2
        | _ => cases h1
      obtain ⟨a1, h3, h4⟩ := T.leaf hk
      obtain ⟨a2, h5, h6⟩ := T.leaf (retM_ok plain)
      have e1 : a1 = xr := by
        have e2 : a1 = a2 := T.leaf_eq h4 h6
        have e3 : a2 = xr := by rw [← hxr] at h5; exact (Prod.mk.inj h5).1
        rw [e2, e3]
      rw [← e1]; exact h3
    refine ⟨z, mkY _ (fun w' => ?_), .here hr hxr hz⟩
    obtain ⟨z', xr', hrun', hxr', hz'⟩ := hany w'
    have e : xr' = xr := (Prod.mk.inj (hxr'.trans hxr.symm)).1
    subst e
    have ez : z' = z := by cases xr' <;> first | (cases hz; cases hz'; rfl) | cases hxi
    subst ez
    unfold execOp; rw [ho]
    simp only [Sem.run_bind] at hrun' ⊢
    revert hrun'
    cases (eqGuard op t x y (a.eval x) (a.eval y)).run P w' with
    | ok u w1 =>
      simp only [Result.andThen_ok]
      intro hrun'
      simp [hrun']
    | halt e w1 => intro hrun'; cases hrun'
  | _ => rw [ho] at hp; cases hp

def PureAt (ops : Array Oper) (mk : Nat → Nat) (st0 : Tmps) (R : DR) (u : Nat) : Prop := ∃ o, ops[u]? = some o ∧ pv0 ops.toList u o = true ∧ pureV (stA R st0 (mk u) ops.toList 0) o.op = true
omit tok hc in
theorem pv0_spec {u : Nat} {o : Oper} (h : pv0 ops.toList u o = true) : o.guard = none ∧ ∀ j oj, ops[j]? = some oj → u < j → (∀ e ∈ oj.after, Region.binds .any e = true → e.on ≠ u) → o.apart ops oj = true := by
  unfold pv0 at h
  cases hg : o.guard with
  | some g => rw [hg] at h; cases h
  | none =>
    rw [hg] at h
    refine ⟨rfl, fun j oj hj hlt hno => ?_⟩
    obtain ⟨_, h⟩ := Bool.and_eq_true_iff.1 (show (pureK o.op && freeU ops.toList u o) = true from h)
    unfold freeU at h
    rw [List.all_eq_true] at h
    have hm : oj ∈ ops.toList.drop (u + 1) := by
      have h1 : (ops.toList.drop (u + 1))[j - (u + 1)]? = some oj := by rw [List.getElem?_drop, show u + 1 + (j - (u + 1)) = j by omega]; simpa using hj
      exact List.mem_of_getElem? h1
    rcases Bool.or_eq_true_iff.1 (h oj hm) with h1 | h1
    · rw [List.any_eq_true] at h1
      obtain ⟨e, he, hb⟩ := h1
      obtain ⟨hb1, hb2⟩ := Bool.and_eq_true_iff.1 hb
      exact absurd (Nat.eq_of_beq_eq_true hb2) (hno e (by simpa using he) hb1)
    · simpa using h1

theorem draw_any (hall : ∀ o ∈ ops.toList, OpOk P n o) (hm : MaskOk ops.toList mk) (hd : dstsOk ops.toList = true) (hbig : 0 < big) (hms : m ≤ ops.size) (hsp : ∀ i, m ≤ i → i < ops.size → ∀ u, u < i → Nat.testBit (mk i) u = true ∨ (u < m ∧ PureAt ops mk st0 R u))
    (hsel : Region.noSelect ops = true) {QX : Exit → Act → World → Prop} (hQ : ∀ (d : Option Tmp) v c a w, QX (.panic c) (a.put d v) w → QX (.panic c) a w)
    (hR : ∀ j o, j < m → ops[j]? = some o → (drawOp P tt callF ops.toList (memA M0 big R (mk j) j) (stA R st0 (mk j) ops.toList 0) o).holds (· = R j) (fun _ _ => False) ∧ (R j).2.next ≤ M0.next + (j + 1) * big)
    {Q : Tmps × Mem → Prop} {Qp : AV → Mem → Prop}
    (hend : ∀ φ a w, StOk N n ds φ ⟨M0.next + m * big, M0.lock, (memA M0 big R (Nat.sub (Nat.pow 2 m) 1) 0).get⟩ w (stA R st0 (Nat.sub (Nat.pow 2 m) 1) (ops.toList.take m) 0) a →
      Ext φ0 M0 w0 φ ⟨M0.next + m * big, M0.lock, (memA M0 big R (Nat.sub (Nat.pow 2 m) 1) 0).get⟩ w → (∀ t, (∀ k o, k < m → ops[k]? = some o → o.dst ≠ some t) → AVRel φ0 (st0 t) (a.tmps.getD t undef)) →
      ∃ φ' st' M', (evOps P tt callF ops.toList (ops.toList.drop m) st' M').holds Q Qp ∧ StOk N n ds φ' M' w st' a ∧ Ext φ0 M0 w0 φ' M' w)
    (hq : ∀ φ' M' w' st' a', Q (st', M') → StOk N n ds φ' M' w' st' a' → Ext φ0 M0 w0 φ' M' w' → QX .normal a' w') (hp : PanOk N ds φ0 M0 w0 Qp QX) :
    ∀ (fuel : Nat) (listed : Array Bool) (a : Act) (w : World), listed.size = ops.size → unl ops.size listed = fuel →
      ((∃ φ, DInv N n ds ops mk big M0 st0 φ0 w0 m R (fun k => listed.getD k false = true) φ w a) ∨
       (∃ i st M φ, m ≤ i ∧ i ≤ ops.size ∧ (∀ k, listed.getD k false = true ↔ k < i) ∧ (evOps P tt callF ops.toList (ops.toList.drop i) st M).holds Q Qp ∧ StOk N n ds φ M w st a ∧ Ext φ0 M0 w0 φ M w)) →
      wpAny P .any ops QX fuel listed a w := by
  have hbit : ∀ i k, Nat.testBit (2 ^ i - 1) k = true ↔ k < i := fun i k => by rw [Nat.testBit_two_pow_sub_one]; simp
  intro fuel
  induction fuel with
  | zero =>
    intro listed a w hsz hu hinv
    have hallL := unl_zero hu
    have hr : Region.ready .any ops listed = [] := by
      rw [List.eq_nil_iff_forall_not_mem]
      intro i hi
      rw [mem_ready] at hi
      obtain ⟨h1, o, ho, _⟩ := hi
      have hlt : i < ops.size := (Array.getElem?_eq_some_iff.1 ho).1
      rw [hallL i hlt] at h1; cases h1
    refine ⟨hr, ?_⟩
    have hinv2 : ∃ st M φ, (evOps P tt callF ops.toList [] st M).holds Q Qp ∧ StOk N n ds φ M w st a ∧ Ext φ0 M0 w0 φ M w := by
      rcases hinv with ⟨φ, h⟩ | ⟨i, st, M, φ, h1, h2, h3, h4, h5, h6⟩
      · have hm2 : m = ops.size := by
          rcases Nat.lt_or_ge m ops.size with h1 | h1
          · have := h.im m (by rw [← getD_tf hsz h1]; exact hallL m h1); omega
          · omega
        obtain ⟨h1, h2⟩ := h.finish hbig (fun k hk => by rw [← getD_tf hsz (by omega)]; exact hallL k (by omega))
        obtain ⟨φ', st', M', e1, e2, e3⟩ := hend φ a w h1 h2 (fun t ht => h.i4 t fun k o hk ho => ht k o (h.im k hk) ho)
        have hdrop : ops.toList.drop m = [] := by rw [hm2]; simp
        rw [hdrop] at e1
        exact ⟨st', M', φ', e1, e2, e3⟩
      · have hi : i = ops.size := by
          rcases Nat.lt_or_ge i ops.size with h7 | h7
          · have := (h3 i).1 (by rw [← getD_tf hsz h7]; exact hallL i h7); omega
          · omega
        refine ⟨st, M, φ, ?_, h5, h6⟩
        have hdrop : ops.toList.drop i = [] := by rw [hi]; simp
        rw [hdrop] at h4; exact h4
    obtain ⟨st, M, φ, h1, h2, h3⟩ := hinv2
    exact hq φ M w st a h1 h2 h3
  | succ fuel ih =>
    intro listed a w hsz hu hinv
    -- if the first part is done, go on with the second
    have hinv' : ((∃ φ, DInv N n ds ops mk big M0 st0 φ0 w0 m R (fun k => listed.getD k false = true) φ w a) ∧ ∃ k, k < m ∧ listed.getD k false = false) ∨
       (∃ i st M φ, m ≤ i ∧ i ≤ ops.size ∧ (∀ k, listed.getD k false = true ↔ k < i) ∧ (evOps P tt callF ops.toList (ops.toList.drop i) st M).holds Q Qp ∧ StOk N n ds φ M w st a ∧ Ext φ0 M0 w0 φ M w) := by
      rcases hinv with ⟨φ, h⟩ | h
      · by_cases hex : ∃ k, k < m ∧ listed.getD k false = false
        · exact .inl ⟨⟨φ, h⟩, hex⟩
        · right
          have hl : ∀ k, k < m → listed.getD k false = true := fun k hk => by
            cases hb : listed.getD k false with
            | true => rfl
            | false => exact (hex ⟨k, hk, hb⟩).elim
          obtain ⟨h1, h2⟩ := h.finish hbig hl
          obtain ⟨φ', st', M', e1, e2, e3⟩ := hend φ a w h1 h2 (fun t ht => h.i4 t fun k o hk ho => ht k o (h.im k hk) ho)
          exact ⟨m, st', M', φ', Nat.le_refl _, hms, fun k => ⟨fun hk => h.im k hk, fun hk => hl k hk⟩, e1, e2, e3⟩
      · exact .inr h
    clear hinv
    have hcl : ∀ i, i ∈ Region.ready .any ops listed → (∀ k, listed.getD k false = true → ∀ i, Nat.testBit (mk k) i = true → listed.getD i false = true) → ∀ k, Nat.testBit (mk i) k = true → listed.getD k false = true := by
      intro i hi hclosed k hk
      rw [mem_ready] at hi
      obtain ⟨_, o, ho, he⟩ := hi
      obtain ⟨e, hee, hb, hh⟩ := hm.via i o (by simpa using ho) k hk
      rcases hh with hh | rfl
      · exact hclosed _ (he e hee hb) k hh
      · exact he e hee hb
    have hfirst : ∀ i, i < ops.size → listed.getD i false = false → (∀ k, k < i → listed.getD k false = true) → i ∈ Region.ready .any ops listed := by
      intro i hi hni hlt
      rw [mem_ready]
      have ho : ops[i]? = some ops[i] := Array.getElem?_eq_getElem hi
      refine ⟨by rw [getD_tf hsz hi]; exact hni, _, ho, fun e he hb => hlt e.on ?_⟩
      exact hm.lt i e.on (hm.edge i _ (by simpa using ho) e he hb)
    have hleast : ∀ k, listed.getD k false = false → ∃ i, i ≤ k ∧ listed.getD i false = false ∧ ∀ q, q < i → listed.getD q false = true := by
      intro k
      induction k using Nat.strongRecOn with
      | _ k ihk =>
        intro hk
        by_cases hex : ∃ q, q < k ∧ listed.getD q false = false
        · obtain ⟨q, hq1, hq2⟩ := hex
          obtain ⟨i, h1, h2, h3⟩ := ihk q hq1 hq2
          exact ⟨i, by omega, h2, h3⟩
        · refine ⟨k, Nat.le_refl _, hk, fun q hq => ?_⟩
          cases hb : listed.getD q false with
          | true => rfl
          | false => exact (hex ⟨q, hq, hb⟩).elim
    have hset : ∀ i, i < ops.size → ∀ k, (listed.setIfInBounds i true).getD k false = true ↔ listed.getD k false = true ∨ k = i := by
      intro i hi k
      by_cases e : k = i
      · subst e; simp [hsz, hi]
      · rw [getD_set_ne false (Ne.symm e)]; simp [e]
    rcases hinv' with ⟨⟨φ, h⟩, k0, hk0, hk1⟩ | ⟨i0, st, M, φ, hmi, his, hlist, hev, hst, hext⟩
    · obtain ⟨i1, hi1a, hi1b, hi1c⟩ := hleast k0 hk1
      have hi1r := hfirst i1 (by omega) hi1b hi1c
      by_cases hpu : PureAt ops mk st0 R i1
      · obtain ⟨o, ho, hp1, hp2⟩ := hpu
        obtain ⟨hg, hap⟩ := pv0_spec hp1
        have hanc := hcl i1 hi1r h.cl
        obtain ⟨hop, hnext⟩ := hR i1 o (by omega) ho
        have hop' : (evOp ⟨P, tt, callF, memA M0 big R (mk i1) i1, stA R st0 (mk i1) ops.toList 0⟩ o.op).holds (· = R i1) (fun _ _ => False) := by
          rcases drawOp_ok hop with ⟨_, hh⟩ | ⟨g, want, p, d, hg', _⟩
          · exact hh
          · rw [hg] at hg'; cases hg'
        obtain ⟨v, hy, hgood⟩ := pure_yields tok (ops := ops) (h.repA hm hbig hanc) (h.tmpsA hm hd hanc) hg hp2 hop'
        have hlt : i1 < ops.size := by omega
        have hoo := hall o (by rw [Array.mem_toList_iff]; exact Array.mem_of_getElem? ho)
        obtain ⟨φn, hn⟩ := h.after hm hd hbig (by omega) ho hoo.1 (by rw [hi1b]; simp) hanc hnext hgood
        refine wpAny_first ho (Region.noSelect_spec hsel) (fun c a w hx => hQ _ _ c a w hx) fuel listed a w ?_ hi1r hy ?_
        · intro j oj hj hji hun hno
          refine hap j oj hj ?_ hno
          rcases Nat.lt_or_ge i1 j with h1 | h1
          · exact h1
          · have h2 := hi1c j (by omega)
            rw [← getD_tf hsz (by omega), hun] at h2; cases h2
        · refine ih _ _ w (by simpa using hsz) ?_ (.inl ⟨φn, ?_⟩)
          · have := unl_set hlt hsz (by rw [getD_tf hsz hlt]; exact hi1b); omega
          · have e : (fun k => (listed.setIfInBounds i1 true).getD k false = true) = fun k => listed.getD k false = true ∨ k = i1 := by
              funext k; exact propext (hset i1 hlt k)
            rw [e]; exact hn
      refine ⟨fun hr => ?_, fun i hi => ?_⟩
      · rw [hr] at hi1r; cases hi1r
      · have hanc := hcl i hi h.cl
        have hi' := hi
        rw [mem_ready] at hi'
        obtain ⟨hni, o, ho, _⟩ := hi'
        have hlt : i < ops.size := (Array.getElem?_eq_some_iff.1 ho).1
        rw [getD_tf hsz hlt] at hni
        have him : i < m := by
          rcases Nat.lt_or_ge i m with h1 | h1
          · exact h1
          · rcases hsp i h1 hlt i1 (by omega) with h2 | ⟨_, h2⟩
            · have := hanc i1 h2
              rw [hi1b] at this; cases this
            · exact (hpu h2).elim
        obtain ⟨hop, hnext⟩ := hR i o him ho
        refine draw_step tok hc hall hm hd hbig h him ho (by rw [hni]; simp) hanc hop hnext ?_
        intro φn w' a' hn
        refine ih _ a' w' (by simpa using hsz) ?_ (.inl ⟨φn, ?_⟩)
        · have := unl_set hlt hsz (by rw [getD_tf hsz hlt]; exact hni); omega
        · have e : (fun k => (listed.setIfInBounds i true).getD k false = true) = fun k => listed.getD k false = true ∨ k = i := by
            funext k; exact propext (hset i hlt k)
          rw [e]; exact hn
    · refine ⟨fun hr => ?_, fun i hi => ?_⟩
      · have hi0 : i0 = ops.size := by
          rcases Nat.lt_or_ge i0 ops.size with h7 | h7
          · have hni : listed.getD i0 false = false := by
              cases hb : listed.getD i0 false with
              | false => rfl
              | true => have := (hlist i0).1 hb; omega
            have := hfirst i0 h7 hni (fun k hk => (hlist k).2 hk)
            rw [hr] at this; cases this
          · omega
        have hdrop : ops.toList.drop i0 = [] := by rw [hi0]; simp
        rw [hdrop] at hev
        exact hq φ M w st a hev hst hext
      · have hanc := hcl i hi (fun k hk q hq => (hlist q).2 (by have h1 := (hlist k).1 hk; have h2 := hm.lt _ _ hq; omega))
        have hi' := hi
        rw [mem_ready] at hi'
        obtain ⟨hni, o, ho, _⟩ := hi'
        have hlt : i < ops.size := (Array.getElem?_eq_some_iff.1 ho).1
        rw [getD_tf hsz hlt] at hni
        have hii : i = i0 := by
          have h1 : ¬ i < i0 := fun h => by rw [(hlist i).2 h] at hni; cases hni
          rcases Nat.lt_or_ge i0 i with h2 | h2
          · rcases hsp i (by omega) hlt i0 h2 with h4 | ⟨h4, _⟩
            · have := (hlist i0).1 (hanc i0 h4); omega
            · omega
          · omega
        subst hii
        have hcons : ops.toList.drop i = o :: ops.toList.drop (i + 1) := by
          have hl : i < ops.toList.length := by simpa using hlt
          rw [List.drop_eq_getElem_cons hl]
          congr 1
          have : ops.toList[i]? = some o := by simpa using ho
          rw [List.getElem?_eq_getElem hl] at this
          exact Option.some.inj this
        rw [hcons] at hev
        have hmem : o ∈ ops.toList := by rw [Array.mem_toList_iff]; exact Array.mem_of_getElem? ho
        have := evOps_step tok hc hall hev (hall o hmem) hst (K := wpAny P .any ops QX fuel (listed.setIfInBounds i true)) (QX := QX) (fun φ' M' w' st' a' h1 h2 h3 => by
          refine ih _ a' w' (by simpa using hsz) ?_ (.inr ⟨i + 1, st', M', φ', by omega, by omega, fun k => ?_, h1, h2, hext.trans h3⟩)
          · have := unl_set hlt hsz (by rw [getD_tf hsz hlt]; exact hni); omega
          · rw [hset i hlt k, hlist k]; omega) (hp.step hext)
        unfold wpOp
        simp only [ho]
        exact this

end
end Go.Eng
