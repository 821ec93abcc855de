/- An evaluator of the code of the model, and lemmas of its proof of soundness: what it tells of a call, the call does; no condition but those that each lemma names. -/
import Derived.Test.YtiokhipgpfeoeaaEng8d
set_option linter.all false
set_option linter.deprecated false
set_option autoImplicit false
namespace Go.Eng
open Go Go.RowKit
theorem forceN_eq {R : Type} (n : Nat) (k : Nat → R) : forceN n k = k n := by cases n <;> rfl
theorem masksK_eq {β : Type} (l : List Oper) : ∀ (j : Nat) (mk : Nat → Nat) (k : (Nat → Nat) → T β), masksK l j mk k = k (masks l j mk) := by
  induction l with
  | nil => intro j mk k; rfl
  | cons o l ih =>
    intro j mk k
    show (forceN (ancOf mk o.after.toList) fun m => masksK l (j + 1) (upd mk j m) k) = _
    rw [forceN_eq, ih]; rfl

theorem lateV_spec {all : List Oper} {mk : Nat → Nat} {F : Nat → Bool} {m i : Nat} (l : List Oper) : ∀ {u : Nat} (_ : lateV all mk F m i l u = true) {k : Nat} {o : Oper} (_ : l[k]? = some o) (_ : u + k < i),
    Nat.testBit (mk i) (u + k) = true ∨ (u + k < m ∧ pv0 all (u + k) o = true ∧ F (u + k) = true) := by
  induction l with
  | nil => intro u _ k o h; simp at h
  | cons p l ih =>
    intro u h k o hk hlt
    have h : bif2 (Nat.blt u i) (bif2 (Nat.testBit (mk i) u) (lateV all mk F m i l (u + 1)) (bif2 (Nat.blt u m && (pv0 all u p && F u)) (lateV all mk F m i l (u + 1)) false)) true = true := h
    have hui : Nat.blt u i = true := (by have : u < i := by omega
                                         simpa [Nat.blt_eq] using this)
    rw [bif2_eq, if_pos hui, bif2_eq] at h
    have step : lateV all mk F m i l (u + 1) = true → 0 < k → Nat.testBit (mk i) (u + k) = true ∨ (u + k < m ∧ pv0 all (u + k) o = true ∧ F (u + k) = true) := by
      intro h h0
      obtain ⟨k, rfl⟩ : ∃ q, k = q + 1 := ⟨k - 1, by omega⟩
      have := ih h (k := k) (o := o) (by simpa using hk) (by omega)
      rwa [show u + 1 + k = u + (k + 1) by omega] at this
    split at h
    · rename_i hb
      rcases Nat.eq_zero_or_pos k with e | e
      · subst e; exact .inl hb
      · exact step h e
    · rw [bif2_eq] at h
      split at h
      · rename_i hb
        rcases Nat.eq_zero_or_pos k with e | e
        · subst e
          have hp : p = o := by simpa using hk
          subst hp
          obtain ⟨h1, h2⟩ := Bool.and_eq_true_iff.1 hb
          obtain ⟨h2, h3⟩ := Bool.and_eq_true_iff.1 h2
          exact .inr ⟨by simpa [Nat.blt_eq] using h1, h2, h3⟩
        · exact step h e
      · cases h
theorem lateAll_spec {all : List Oper} {mk : Nat → Nat} {F : Nat → Bool} {m : Nat} (l : List Oper) : ∀ {i : Nat} (_ : lateAll all mk F m l i = true) {k : Nat} (_ : k < l.length), lateV all mk F m (i + k) all 0 = true := by
  induction l with
  | nil => intro i _ k h; simp at h
  | cons p l ih =>
    intro i h k hk
    have h : bif2 (lateV all mk F m i all 0) (lateAll all mk F m l (i + 1)) false = true := h
    rw [bif2_eq] at h
    split at h
    · rename_i hb
      rcases Nat.eq_zero_or_pos k with e | e
      · subst e; exact hb
      · obtain ⟨k, rfl⟩ : ∃ q, k = q + 1 := ⟨k - 1, by omega⟩
        have := ih h (k := k) (by simpa using hk)
        rwa [show i + 1 + k = i + (k + 1) by omega] at this
    · cases h

theorem unl_step (l : List Nat) (hn : l.Nodup) (f g : Nat → Bool) (i : Nat) (hi : i ∈ l) (hf : f i = true) (hg : g i = false) (he : ∀ k, k ≠ i → g k = f k) : (l.filter g).length + 1 = (l.filter f).length := by
  induction l with
  | nil => cases hi
  | cons x l ih =>
    rw [List.nodup_cons] at hn
    rcases List.mem_cons.1 hi with rfl | hi
    · have : l.filter g = l.filter f := List.filter_congr fun k hk => he k fun e => hn.1 (e ▸ hk)
      rw [List.filter_cons, List.filter_cons, hf, hg, this]; simp
    · have hx : x ≠ i := fun e => hn.1 (e ▸ hi)
      rw [List.filter_cons, List.filter_cons, he x hx]
      cases f x <;> simp [ih hn.2 hi]
def unl (n : Nat) (listed : Array Bool) : Nat := ((List.range n).filter fun k => !listed.getD k true).length
theorem unl_set {n : Nat} {listed : Array Bool} {i : Nat} (hi : i < n) (hs : listed.size = n) (h : listed.getD i true = false) : unl n (listed.setIfInBounds i true) + 1 = unl n listed := by
  unfold unl
  refine unl_step _ List.nodup_range _ _ i (by simpa using hi) (by simp [h]) ?_ fun k hk => ?_
  · simp [hs, hi]
  · rw [getD_set_ne true (Ne.symm hk)]
theorem unl_zero {n : Nat} {listed : Array Bool} (h : unl n listed = 0) : ∀ k, k < n → listed.getD k true = true := by
  intro k hk
  cases hb : listed.getD k true with
  | true => rfl
  | false =>
    have hm : k ∈ (List.range n).filter fun k => !listed.getD k true := List.mem_filter.2 ⟨by simpa using hk, by simp only [hb]; rfl⟩
    have := List.length_pos_of_mem hm
    unfold unl at h; omega
theorem getD_tf {listed : Array Bool} {k n : Nat} (hs : listed.size = n) (hk : k < n) : listed.getD k true = listed.getD k false := by
  simp only [Array.getD_eq_getD_getElem?]
  rw [Array.getElem?_eq_getElem (by omega)]; rfl
theorem getD_out {listed : Array Bool} {k n : Nat} (hs : listed.size = n) (hk : n ≤ k) : listed.getD k false = false := by
  simp only [Array.getD_eq_getD_getElem?]
  rw [Array.getElem?_eq_none (by omega)]; rfl
theorem unl_init (n : Nat) : unl n (Array.replicate n false) = n := by
  unfold unl
  have : ((List.range n).filter fun k => !(Array.replicate n false).getD k true) = List.range n := by
    refine List.filter_eq_self.2 fun k hk => ?_
    have hk : k < n := by simpa using hk
    simp [Array.getD_eq_getD_getElem?, hk]
  rw [this]; simp

section
variable {P : Program} {tt : TT} {callF : FuncId → List AV → Mem → T (AV × Mem)} {N n : Nat} {ds : List Deferred} {ops : Array Oper} {mk : Nat → Nat} {big : Nat} {M0 : Mem} {st0 : Tmps} {φ0 : Phi} {w0 : World} {m : Nat} {R : DR} {G : GS}

theorem setAt_spec (ps : List AV) : ∀ (l : List AV) (off i : Nat) (a : AV), (setAt ps l off)[i]? = some a → (off ≤ i ∧ ps[i - off]? = some a) ∨ l[i]? = some a := by
  induction ps with
  | nil => intro l off i a h; exact .inr h
  | cons x ps ih =>
    intro l off i a h
    have h : (setAt ps (l.set off x) (off + 1))[i]? = some a := h
    rcases ih _ _ _ _ h with ⟨h1, h2⟩ | h1
    · refine .inl ⟨by omega, ?_⟩
      rw [show i - off = (i - (off + 1)) + 1 by omega, List.getElem?_cons_succ]; exact h2
    · by_cases e : i = off
      · subst e
        rw [List.getElem?_set] at h1
        simp only [if_true] at h1
        split at h1
        · exact .inl ⟨Nat.le_refl _, by simpa using h1⟩
        · cases h1
      · rw [List.getElem?_set_ne (Ne.symm e)] at h1; exact .inr h1
theorem setAt_len (ps : List AV) : ∀ (l : List AV) (off : Nat), (setAt ps l off).length = l.length := by
  induction ps with
  | nil => intro l off; rfl
  | cons x ps ih =>
    intro l off
    show (setAt ps (l.set off x) (off + 1)).length = _
    rw [ih]; simp
theorem putO_own {l : List AV} {off : Nat} {o : AObj} : isOwn (putO l off o) ↔ isOwn o := by cases o <;> exact Iff.rfl
theorem finO_own {G : GS} {m id : Nat} {o : AObj} : isOwn (finO G m id o) ↔ isOwn o := by
  induction m with
  | zero => exact Iff.rfl
  | succ k ih =>
    show isOwn (@Option.rec (Nat × Nat × List AV) (fun _ => AObj) (finO G k id o) (fun g => bif2 (Nat.beq g.1 id) (putO g.2.2 g.2.1 (finO G k id o)) (finO G k id o)) (G k)) ↔ _
    cases G k with
    | none => exact ih
    | some g =>
      show isOwn (bif2 (Nat.beq g.1 id) (putO g.2.2 g.2.1 (finO G k id o)) (finO G k id o)) ↔ _
      rw [bif2_eq]
      split
      · rw [putO_own]; exact ih
      · exact ih
theorem finO_cells {G : GS} {id : Nat} {e : TypeId} {rs : Nat} {cells : List AV} : ∀ (m : Nat), ∃ cells', finO G m id (.own e rs cells) = .own e rs cells' ∧ cells'.length = cells.length ∧
    ∀ i a, cells'[i]? = some a → (∃ k off l, k < m ∧ G k = some (id, off, l) ∧ off ≤ i ∧ l[i - off]? = some a) ∨ cells[i]? = some a := by
  intro m
  induction m with
  | zero => exact ⟨cells, rfl, rfl, fun i a h => .inr h⟩
  | succ k ih =>
    obtain ⟨c1, h1, h2, h3⟩ := ih
    have hs : finO G (k + 1) id (.own e rs cells) = @Option.rec (Nat × Nat × List AV) (fun _ => AObj) (finO G k id (.own e rs cells)) (fun g => bif2 (Nat.beq g.1 id) (putO g.2.2 g.2.1 (finO G k id (.own e rs cells))) (finO G k id (.own e rs cells))) (G k) := rfl
    rw [h1] at hs
    have keep : ∀ i a, c1[i]? = some a → (∃ k' off l, k' < k + 1 ∧ G k' = some (id, off, l) ∧ off ≤ i ∧ l[i - off]? = some a) ∨ cells[i]? = some a := fun i a h => by
      rcases h3 i a h with ⟨k', off, l, h4, h5⟩ | h4
      · exact .inl ⟨k', off, l, by omega, h5⟩
      · exact .inr h4
    cases hg : G k with
    | none => rw [hg] at hs; exact ⟨c1, hs, h2, keep⟩
    | some g =>
      obtain ⟨id', off, l⟩ := g
      rw [hg] at hs
      have hs : finO G (k + 1) id (.own e rs cells) = bif2 (Nat.beq id' id) (.own e rs (setAt l c1 off)) (.own e rs c1) := hs
      rw [bif2_eq] at hs
      split at hs
      · rename_i he
        have he := Nat.eq_of_beq_eq_true he
        subst he
        refine ⟨_, hs, by rw [setAt_len, h2], fun i a h => ?_⟩
        rcases setAt_spec _ _ _ _ _ h with ⟨h5, h6⟩ | h5
        · exact .inl ⟨k, off, l, by omega, hg, h5, h6⟩
        · exact keep i a h5
      · exact ⟨c1, hs, h2, keep⟩
theorem finO_other {G : GS} {id m : Nat} {o : AObj} (h : ¬ isOwn o ∨ ∃ e n c, o = .vec e n c) : finO G m id o = o := by
  induction m with
  | zero => rfl
  | succ k ih =>
    have hs : finO G (k + 1) id o = @Option.rec (Nat × Nat × List AV) (fun _ => AObj) (finO G k id o) (fun g => bif2 (Nat.beq g.1 id) (putO g.2.2 g.2.1 (finO G k id o)) (finO G k id o)) (G k) := rfl
    rw [ih] at hs
    rw [hs]
    cases G k with
    | none => rfl
    | some g =>
      show bif2 (Nat.beq g.1 id) (putO g.2.2 g.2.1 o) o = o
      rw [bif2_eq]
      split
      · rcases h with h | ⟨e, n, c, rfl⟩
        · cases o <;> first | rfl | exact absurd trivial h
        · rfl
      · rfl
theorem anyG_false {G : GS} : ∀ (m : Nat), anyG G m = false → ∀ k, k < m → G k = none := by
  intro m
  induction m with
  | zero => intro _ k hk; omega
  | succ j ih =>
    intro h k hk
    have h : @Option.rec (Nat × Nat × List AV) (fun _ => Bool) (anyG G j) (fun _ => true) (G j) = false := h
    cases hg : G j with
    | none =>
      rw [hg] at h
      rcases Nat.lt_or_ge k j with h1 | h1
      · exact ih h k h1
      · obtain rfl : k = j := by omega
        exact hg
    | some g => rw [hg] at h; cases h
theorem finO_none {G : GS} {id : Nat} {o : AObj} : ∀ (m : Nat), (∀ k, k < m → G k = none) → finO G m id o = o := by
  intro m
  induction m with
  | zero => intro _; rfl
  | succ j ih =>
    intro h
    have hs : finO G (j + 1) id o = @Option.rec (Nat × Nat × List AV) (fun _ => AObj) (finO G j id o) (fun g => bif2 (Nat.beq g.1 id) (putO g.2.2 g.2.1 (finO G j id o)) (finO G j id o)) (G j) := rfl
    rw [hs, h j (by omega)]
    exact ih fun k hk => h k (by omega)
/-- The memory behind the first part. -/
noncomputable def memF (M0 : Mem) (big m : Nat) (R : DR) (G : GS) : Mem := ⟨M0.next + m * big, M0.lock, bif2 (anyG G m) (fun id => bif2 (Nat.blt id M0.next) (finO G m id (M0.get id)) ((memA M0 big R (Nat.sub (Nat.pow 2 m) 1) 0).get id)) (memA M0 big R (Nat.sub (Nat.pow 2 m) 1) 0).get⟩
theorem memF_get {id : Nat} : (memF M0 big m R G).get id = if id < M0.next then finO G m id (M0.get id) else if ow M0 big id < m then (R (ow M0 big id)).2.get id else .dead := by
  have hbit : ∀ k, Nat.testBit (Nat.sub (Nat.pow 2 m) 1) k = true ↔ k < m := by
    intro k
    show Nat.testBit (2 ^ m - 1) k = true ↔ _
    rw [Nat.testBit_two_pow_sub_one]; simp
  have hA : (memA M0 big R (Nat.sub (Nat.pow 2 m) 1) 0).get id = if id < M0.next then M0.get id else if ow M0 big id < m then (R (ow M0 big id)).2.get id else .dead := by
    rw [memA_get]
    by_cases h1 : id < M0.next
    · rw [if_pos h1, if_pos h1]
    · rw [if_neg h1, if_neg h1]
      by_cases h2 : ow M0 big id < m
      · rw [if_pos h2, if_pos ((hbit _).2 h2)]
      · rw [if_neg h2, if_neg (fun e => h2 ((hbit _).1 e))]
  show (bif2 (anyG G m) (fun id => bif2 (Nat.blt id M0.next) (finO G m id (M0.get id)) ((memA M0 big R (Nat.sub (Nat.pow 2 m) 1) 0).get id)) (memA M0 big R (Nat.sub (Nat.pow 2 m) 1) 0).get) id = _
  rw [bif2_eq]
  split
  · show bif2 (Nat.blt id M0.next) (finO G m id (M0.get id)) ((memA M0 big R (Nat.sub (Nat.pow 2 m) 1) 0).get id) = _
    rw [bif2_eq, hA]
    by_cases h1 : id < M0.next
    · rw [if_pos (by simpa [Nat.blt_eq] using h1), if_pos h1]
    · rw [if_neg h1, if_neg h1, if_neg (by simpa [Nat.blt_eq] using h1)]
  · rename_i h
    have h : anyG G m = false := by cases hh : anyG G m with | false => rfl | true => exact absurd hh h
    rw [hA, finO_none m (anyG_false m h)]

/-- The first part is done. -/
theorem DInv.finish (hbig : 0 < big) (gok : GOk M0 φ0 w0 G) {listed : Nat → Prop} {φ : Phi} {w : World} {a : Act} (h : DInv N n ds ops mk big M0 st0 φ0 w0 m R G listed φ w a) (hl : ∀ k, k < m → listed k) :
    StOk N n ds φ (memF M0 big m R G) w (stA R st0 (Nat.sub (Nat.pow 2 m) 1) (ops.toList.take m) 0) a ∧
      Ext φ0 M0 w0 φ (memF M0 big m R G) w := by
  have hbit : ∀ k, Nat.testBit (Nat.sub (Nat.pow 2 m) 1) k = true ↔ k < m := by
    intro k
    show Nat.testBit (2 ^ m - 1) k = true ↔ _
    rw [Nat.testBit_two_pow_sub_one]; simp
  have h0 : ∀ id, M0.next ≤ id → φ0 id = none := fun id hid => (h.i6.fresh id hid).2
  have hle : PhiLe φ0 φ := fun id x e => by
    rcases Nat.lt_or_ge id M0.next with h1 | h1
    · rw [h.i1 id h1]; exact e
    · rw [h0 id h1] at e; cases e
  have toS : ∀ id, isOwn ((memF M0 big m R G).get id) → ownS M0 big R listed id := by
    intro id ho
    rw [memF_get] at ho
    split at ho
    · exact .inl ⟨by assumption, finO_own.1 ho⟩
    · split at ho
      · rename_i h1 h2; exact .inr ⟨by omega, hl _ h2, ho⟩
      · exact ho.elim
  refine ⟨⟨⟨fun id => ?_, fun id id' p p' ho ho' hp hp' e => h.i5 id id' p p' (toS id ho) (toS id' ho') hp hp' e, fun id p ho hp => ?_, fun id hid => ?_, h.i6.size⟩, fun t => ?_, h.size, h.defers⟩,
    ⟨hle, h.i1, (by show M0.next ≤ M0.next + m * big; omega), rfl, h.os, h.tape, h.output, h.wsize, fun b hb hno => h.keep b hb fun k id off l p hG hp => ?_, fun id p ho hp hb => ?_⟩⟩
  · rw [memF_get]
    split
    · rename_i hid
      have hob := h.i6.objs id
      by_cases hcase : ¬ isOwn (M0.get id) ∨ ∃ e n c, M0.get id = .vec e n c
      · rw [finO_other hcase]
        exact hob.step hle (fun _ _ => rfl) (fun _ _ _ => rfl)
      · cases hg : M0.get id with
        | own e rs cells =>
          rw [hg] at hob
          obtain ⟨p, hp, h1, h2, h3, h4, h5⟩ := hob
          obtain ⟨c', e1, e2, e3⟩ := finO_cells (G := G) (id := id) (e := e) (rs := rs) (cells := cells) m
          rw [e1]
          refine ⟨p, hle _ _ hp, h1, h2, h3, by rw [e2]; exact h4, fun j x hx => ?_⟩
          rcases e3 j x hx with ⟨k, off, l, k1, k2, k3, k4⟩ | k1
          · obtain ⟨z, hz, hzr⟩ := h.fs k (hl k k1) id off l p k2 hp (j - off) x k4
            rw [show off + (j - off) = j by omega] at hz
            exact ⟨z, hz, hzr.mono restr_le'⟩
          · obtain ⟨z, hz, hzr⟩ := h5 j x k1
            exact ⟨z, hz, hzr.mono hle⟩
        | dead => exact absurd (.inl (by rw [hg]; exact fun h => h)) hcase
        | ro a b c => exact absurd (.inl (by rw [hg]; exact fun h => h)) hcase
        | vec a b c => exact absurd (.inr ⟨a, b, c, hg⟩) hcase
    · split
      · rename_i h1 h2
        have hob := (h.ir _ (hl _ h2)).objs id
        rw [onlyM_get (by omega) rfl] at hob
        exact hob.step restr_le' (fun _ _ => rfl) (fun _ _ _ => rfl)
      · trivial
  · have hs := toS id ho
    rcases hs with ⟨h1, h2⟩ | ⟨h1, h2, h3⟩
    · rw [h.i1 id h1] at hp; exact h.i6.high id p h2 hp
    · refine (h.ir _ h2).high id p (by rw [onlyM_get h1 rfl]; exact h3) ?_
      rw [restr_of (.inr (.inl rfl))]; exact hp
  · have hid : M0.next + m * big ≤ id := hid
    have h1 : ¬ id < M0.next := by omega
    have h2 : ¬ ow M0 big id < m := by
      intro hlt
      rw [ow_lt hbig] at hlt
      omega
    refine ⟨by rw [memF_get, if_neg h1, if_neg h2], ?_⟩
    cases hφ : φ id with
    | none => rfl
    | some x => exact absurd (h.im _ (h.i2 id (by omega) (by rw [hφ]; simp))) h2
  · rcases stA_spec (R := R) (st0 := st0) (anc := Nat.sub (Nat.pow 2 m) 1) (ops.toList.take m) 0 t with ⟨i, o, ho, hdt, hv⟩ | ⟨hno, hv⟩
    · rw [hv]
      rw [List.getElem?_take] at ho
      split at ho
      · rename_i him
        rw [if_pos (by rw [Nat.zero_add]; exact (hbit i).2 him), Nat.zero_add]
        exact (h.iv i (hl i him) o t (by simpa using ho) hdt).mono restr_le'
      · cases ho
    · rw [hv]
      refine (h.i4 t fun k o hk ho => hno k o ?_).mono hle
      rw [List.getElem?_take, if_pos (h.im k hk)]
      simpa using ho
  · obtain ⟨p', e, rs, cells, k1, k2, _, _, _, _, _, _, _, k3, k4, _⟩ := gok.at' k id off l hG
    exact hno id p k4 (by rw [k2]; trivial) hp
  · rcases toS id ho with ⟨h1, h2⟩ | ⟨h1, h2, h3⟩
    · exact ⟨id, p, h2, by rw [← h.i1 id h1]; exact hp, rfl, fun h => h⟩
    · have := h.i9 id p h1 (.inr ⟨h1, h2, h3⟩) hp
      omega

theorem Rep.blocks {N : Nat} {φ : Phi} {M : Mem} {w w' : World} (h : Rep N φ M w) (hk : ∀ b, b < N → w'.heap[b]? = w.heap[b]?) (ho : ∀ id p, isOwn (M.get id) → φ id = some (some p) → w'.heap[p.b]? = w.heap[p.b]?) (hs : w.heap.size ≤ w'.heap.size) : Rep N φ M w' :=
  ⟨fun id => (h.objs id).step (.refl _) (fun b hb => hk b hb) (fun hw p hp => ho id p hw hp), h.sep, h.high, h.fresh, Nat.le_trans h.size hs⟩
/-- Behind a store to what is there. -/
theorem DInv.afterS (hm : MaskOk ops.toList mk) (hbig : 0 < big) (gok : GOk M0 φ0 w0 G) {listed : Nat → Prop} {φ : Phi} {w : World} {a : Act} (h : DInv N n ds ops mk big M0 st0 φ0 w0 m R G listed φ w a)
    {j : Nat} (hj : j < m) {o : Oper} (ho : ops[j]? = some o) (hdst : o.dst = none) (hnl : ¬ listed j) (hanc : ∀ i, Nat.testBit (mk j) i = true → listed i) (hRj : R j = (.v undef, memA M0 big R (mk j) j))
    {id off : Nat} {l : List AV} (hG : G j = some (id, off, l)) {p : Pl} (hp : φ0 id = some (some p)) {w' : World} (hother : ∀ b, b ≠ p.b → w'.heap[b]? = w.heap[b]?) (hown : ∀ e n, OwnBlock w p.b e n → OwnBlock w' p.b e n)
    (hin : ∀ i y, l[i]? = some y → ∃ z, w'.cell? ⟨p.b, off + i, none⟩ = some z ∧ AVRel (restr φ (domA mk M0 big j)) y z) (hout : ∀ i, (i < off ∨ off + l.length ≤ i) → w'.cell? ⟨p.b, i, none⟩ = w.cell? ⟨p.b, i, none⟩)
    (e1 : w'.os = w.os) (e2 : w'.tape = w.tape) (e3 : w'.output = w.output) (e4 : w'.heap.size = w.heap.size) :
    DInv N n ds ops mk big M0 st0 φ0 w0 m R G (fun k => listed k ∨ k = j) φ w' (a.put o.dst undef) := by
  obtain ⟨p', e, rs, cells, q1, q2, q3, q4, q5, q6, q7, q8, q9, q10, q11, q12⟩ := gok.at' j id off l hG
  rw [hp] at q1; cases q1
  have hjj : Nat.testBit (mk j) j = false := by
    cases hb : Nat.testBit (mk j) j with
    | false => rfl
    | true => have := hm.lt _ _ hb; omega
  have hdead : ∀ id, M0.next ≤ id → ow M0 big id = j → (R j).2.get id = .dead := fun id h1 h2 => by
    rw [hRj]
    show (memA M0 big R (mk j) j).get id = .dead
    rw [memA_get, if_neg (by omega), h2, hjj, if_neg (by simp)]
  have hput : (a.put o.dst undef).tmps = a.tmps := by rw [hdst]; rfl
  have hNp : N ≤ p.b := h.i6.high id p (by rw [q2]; trivial) hp
  have hlow : ∀ b, b < N → w'.heap[b]? = w.heap[b]? := fun b hb => hother b (by omega)
  have hownS : ∀ id', ownS M0 big R (fun k => listed k ∨ k = j) id' → ownS M0 big R listed id' := by
    intro id' hid
    rcases hid with hid | ⟨h1, h2, h3⟩
    · exact .inl hid
    · rcases h2 with h2 | h2
      · exact .inr ⟨h1, h2, h3⟩
      · rw [h2, hdead id' h1 h2] at h3; exact h3.elim
  refine ⟨h.i1, fun id hid hne => .inl (h.i2 id hid hne), fun k hk => ?_, fun k hk => ?_, fun k hk o' d ho' hd' => ?_, fun t ht => ?_, fun id1 id2 p1 p2 ho1 ho2 => h.i5 id1 id2 p1 p2 (hownS _ ho1) (hownS _ ho2), ?_,
    fun b hb hno => (hother b (Ne.symm (hno j id off l p hG hp))).trans (h.keep b hb hno), fun k hk id2 off2 l2 p2 hG2 hp2 i y hy => ?_, e1.trans h.os, e2.trans h.tape, e3.trans h.output, by rw [e4]; exact h.wsize,
    by rw [hput]; exact h.size, (put_defers ..).trans h.defers, fun id' p1 hid ho1 hp1 => h.i9 id' p1 hid (hownS _ ho1) hp1, fun k hk i hi => ?_⟩
  · rcases hk with hk | rfl
    · exact h.im k hk
    · exact hj
  · rcases hk with hk | rfl
    · refine (h.ir k hk).blocks hlow (fun id' p1 ho1 hp1 => hother _ ?_) (by rw [e4]; exact Nat.le_refl _)
      obtain ⟨k1, k2, k3⟩ := onlyM_own ho1
      have := h.i9 id' p1 k1 (.inr ⟨k1, by rw [k2]; exact hk, by rw [k2]; exact k3⟩) (restr_some hp1).2
      omega
    · have hno : ∀ id', ¬ isOwn ((onlyM M0 big k (R k).2).get id') := fun id' ho1 => by
        obtain ⟨k1, k2, k3⟩ := onlyM_own ho1
        rw [hdead id' k1 k2] at k3; exact k3
      refine ⟨fun id' => ?_, fun id1 id2 p1 p2 ho1 => absurd ho1 (hno id1), fun id1 p1 ho1 => absurd ho1 (hno id1), fun id' hid => ?_, by rw [e4]; exact h.i6.size⟩
      · show ObjRel N _ w' id' (if M0.next ≤ id' ∧ ow M0 big id' = k then (R k).2.get id' else .dead)
        split
        · rename_i hh; rw [hdead id' hh.1 hh.2]; trivial
        · trivial
      · rw [hRj] at hid
        have hid : M0.next + k * big ≤ id' := hid
        refine ⟨?_, ?_⟩
        · show (if M0.next ≤ id' ∧ ow M0 big id' = k then (R k).2.get id' else .dead) = .dead
          split
          · rename_i hh; exact hdead id' hh.1 hh.2
          · rfl
        · cases hφ : restr φ (domP mk M0 big k) id' with
          | none => rfl
          | some x =>
            exfalso
            obtain ⟨d1, d2⟩ := restr_some hφ
            have hli := h.i2 id' (by omega) (by rw [d2]; simp)
            rcases d1 with d1 | d1 | d1
            · omega
            · rw [d1] at hli; exact hnl hli
            · have := hm.lt _ _ d1
              rw [ow_lt hbig] at this
              omega
  · rw [hput]
    rcases hk with hk | rfl
    · exact h.iv k hk o' d ho' hd'
    · rw [ho] at ho'; cases ho'; rw [hdst] at hd'; cases hd'
  · rw [hput]
    exact h.i4 t fun k o hk ho => ht k o (.inl hk) ho
  · refine ⟨fun id' => ?_, h.i6.sep, h.i6.high, h.i6.fresh, by rw [e4]; exact h.i6.size⟩
    have hob := h.i6.objs id'
    by_cases hid : id' = id
    · subst hid
      rw [q2] at hob ⊢
      obtain ⟨p1, hp1, r1, r2, r3, r4, r5⟩ := hob
      rw [hp] at hp1; cases hp1
      refine ⟨p, hp, r1, r2, hown _ _ r3, r4, fun jx x hx => ?_⟩
      by_cases hr : jx < off ∨ off + l.length ≤ jx
      · rw [hout jx hr]; exact r5 jx x hx
      · have hlt : jx - off < l.length := by omega
        have hxt : x = .top := by
          refine q9 x (List.mem_of_getElem? (i := jx - off) ?_)
          rw [List.getElem?_take, if_pos hlt, List.getElem?_drop, show off + (jx - off) = jx by omega]; exact hx
        obtain ⟨z, hz, _⟩ := hin (jx - off) _ (List.getElem?_eq_getElem hlt)
        rw [show off + (jx - off) = jx by omega] at hz
        exact ⟨z, hz, by rw [hxt]; exact .top _⟩
    · refine hob.step (.refl _) (fun b hb => hlow b hb) (fun ho1 p1 hp1 => hother _ fun e => ?_)
      exact hid (h.i6.sep id' id p1 p ho1 (by rw [q2]; trivial) hp1 hp e)
  · rcases hk with hk | rfl
    · obtain ⟨z, hz, hzr⟩ := h.fs k hk id2 off2 l2 p2 hG2 hp2 i y hy
      obtain ⟨p3, e', rs', cells', s1, s2, _⟩ := gok.at' k id2 off2 l2 hG2
      by_cases hb : p2.b = p.b
      · have hid : id2 = id := h.i6.sep id2 id p2 p (by rw [s2]; trivial) (by rw [q2]; trivial) hp2 hp hb
        subst hid
        rw [hp] at hp2; cases hp2
        have hne : k ≠ j := fun e => hnl (e ▸ hk)
        have hil : i < l2.length := (List.getElem?_eq_some_iff.1 hy).1
        refine ⟨z, ?_, hzr⟩
        rw [hout (off2 + i) ?_]
        · exact hz
        · rcases Nat.lt_or_ge k j with h1 | h1
          · rcases gok.dis k j id2 off l off2 l2 h1 hG2 hG with h2 | h2 <;> omega
          · rcases gok.dis j k id2 off2 l2 off l (by omega) hG hG2 with h2 | h2 <;> omega
      · exact ⟨z, by rw [cell_eq (hother _ hb)]; exact hz, hzr⟩
    · rw [hG] at hG2; cases hG2
      rw [hp] at hp2; cases hp2
      exact hin i y hy
  · rcases hk with hk | rfl
    · exact .inl (h.cl k hk i hi)
    · exact .inl (hanc i hi)
theorem storeCells_world {P : Program} {e : TypeId} {sz b : Nat} (zs : List Value) : ∀ {w : World} (o i : Nat) (_ : OwnBlock w b e sz) (_ : ∀ z ∈ zs, z.oneCell' = true) (_ : o + i + zs.length ≤ sz), ∃ w', (Go.storeCells ⟨b, o, none⟩ zs i).run P w = .ok () w' ∧ OwnBlock w' b e sz ∧
    (∀ e' n', OwnBlock w b e' n' → OwnBlock w' b e' n') ∧
    (∀ b', b' ≠ b → w'.heap[b']? = w.heap[b']?) ∧ (∀ k z, zs[k]? = some z → w'.cell? ⟨b, o + i + k, none⟩ = some z) ∧ (∀ k, (k < o + i ∨ o + i + zs.length ≤ k) → w'.cell? ⟨b, k, none⟩ = w.cell? ⟨b, k, none⟩) ∧
    w'.os = w.os ∧ w'.tape = w.tape ∧ w'.output = w.output ∧ w'.heap.size = w.heap.size := by
  induction zs with
  | nil => intro w o i h1 h2 h3; exact ⟨w, rfl, h1, fun _ _ h => h, fun _ _ => rfl, by simp, fun _ _ => rfl, rfl, rfl, rfl, rfl⟩
  | cons z zs ih =>
    intro w o i h1 h2 h3
    have hlt : o + i < sz := by simp only [List.length_cons] at h3; omega
    have hfree := h1.free hlt
    have hone := h2 z (by simp)
    have h1' := h1
    obtain ⟨cur, fz, hcur, hsz, hfz⟩ := h1
    have hz0 : w.cell? ⟨b, o + i, none⟩ = some cur[o + i] := by
      simp only [World.cell?, hcur]
      simp [hsz, hlt]
    have hblk := setCell_block w b (o + i) z cur e fz hcur
    have hrun : (store ⟨b, o + i, none⟩ z).run P w = .ok () (w.setCell ⟨b, o + i, none⟩ z) := by rw [run_store P w _ z _ hone, hz0]; simp [hfree]
    have hadd : (⟨b, o, none⟩ : Addr).add i = ⟨b, o + i, none⟩ := by
      unfold Addr.add
      split
      · rename_i h; subst h; rfl
      · rfl
    have tr : ∀ e' n', OwnBlock w b e' n' → OwnBlock (w.setCell ⟨b, o + i, none⟩ z) b e' n' := by
      rintro e' n' ⟨cur', fz', hcur', hsz', hfz'⟩
      rw [hcur] at hcur'; cases hcur'
      exact ⟨_, _, hblk, by simpa using hsz', hfz'⟩
    obtain ⟨w', k1, k2, k3, k4, k5, k6, k7, k8, k9, k10⟩ := ih (w := w.setCell ⟨b, o + i, none⟩ z) o (i + 1) (tr _ _ h1') (fun y hy => h2 y (by simp [hy])) (by simp only [List.length_cons] at h3; omega)
    have hself : (w.setCell ⟨b, o + i, none⟩ z).cell? ⟨b, o + i, none⟩ = some z := World.cell?_setCell_same _ _ _ hz0
    refine ⟨w', ?_, k2, fun e' n' h => k3 _ _ (tr _ _ h), fun b' hb' => (k4 b' hb').trans (setCell_other_block _ _ _ _ (Ne.symm hb')), fun k y hy => ?_, fun k hk => ?_, k7, k8, k9, by rw [k10]; simp⟩
    · rw [Go.storeCells]
      simp only [hadd, Sem.run_bind, hrun, Result.andThen_ok]
      exact k1
    · cases k with
      | zero =>
        have hy : z = y := by simpa using hy
        subst hy
        rw [k6 (o + i + 0) (by omega)]; exact hself
      | succ k =>
        have := k5 k y (by simpa using hy)
        rwa [show o + (i + 1) + k = o + i + (k + 1) by omega] at this
    · simp only [List.length_cons] at hk
      rw [k6 k (by omega)]
      exact World.cell?_setCell_other _ _ _ _ (by intro e; injection e with _ e; omega)
theorem leaves_one {φ : Phi} (l : List AV) : ∀ {zs : List Value}, allLeaf l = true → AVsRel φ l zs → ∀ z ∈ zs, z.oneCell' = true := by
  induction l with
  | nil => intro zs _ h; cases h; simp
  | cons x l ih =>
    intro zs hl h
    have hl : bif2 (leafA x) (allLeaf l) false = true := hl
    obtain ⟨h1, h2⟩ := bif2_tt hl
    cases h with
    | cons hx ht =>
      intro z hz
      rcases List.mem_cons.1 hz with rfl | hz
      · exact leafA_one h1 hx
      · exact ih h2 ht z hz

variable (tok : TTok P tt) (hc : CallsOk P N callF)
include tok hc

/-- Operation j, in the first part. -/
theorem draw_step (hall : ∀ o ∈ ops.toList, OpOk P n o) (hm : MaskOk ops.toList mk) (hd : dstsOk ops.toList = true) (hbig : 0 < big) {listed : Nat → Prop} {φ : Phi} {w : World} {a : Act} (h : DInv N n ds ops mk big M0 st0 φ0 w0 m R G listed φ w a)
    {j : Nat} (hj : j < m) {o : Oper} (ho : ops[j]? = some o) (hnl : ¬ listed j) (hanc : ∀ i, Nat.testBit (mk j) i = true → listed i)
    (hop : (drawOp P tt callF ops.toList (memA M0 big R (mk j) j) (stA R st0 (mk j) ops.toList 0) o).holds (· = R j) (fun _ _ => False)) (hnext : (R j).2.next ≤ M0.next + (j + 1) * big) (hGj : G j = none) {QX : Exit → Act → World → Prop} {K : Act → World → Prop}
    (hK : ∀ φn w' a', DInv N n ds ops mk big M0 st0 φ0 w0 m R G (fun k => listed k ∨ k = j) φn w' a' → K a' w') : wpOp P ops QX j K a w := by
  have hA := h.repA hm hbig hanc
  have hT := h.tmpsA hm hd hanc
  have hoo := hall o (by rw [Array.mem_toList_iff]; exact Array.mem_of_getElem? ho)
  have key : ∀ v w', Good N (restr φ (domA mk M0 big j)) (memA M0 big R (mk j) j) w (· = R j) v w' → K (a.put o.dst v) w' := by
    intro v w' hg
    obtain ⟨φn, hn⟩ := h.after hm hd hbig hj ho hoo.1 hnl hanc hnext hGj hg
    exact hK φn w' _ hn
  have go : (evOp ⟨P, tt, callF, memA M0 big R (mk j) j, stA R st0 (mk j) ops.toList 0⟩ o.op).holds (· = R j) (fun _ _ => False) → o.wp P a w K QX := by
    intro hh
    have hout := evOp_ok (K := ⟨P, tt, callF, memA M0 big R (mk j) j, stA R st0 (mk j) ops.toList 0⟩) rfl tok hc hA hT o hh hoo.2
    unfold Oper.wp
    rcases hout with ⟨v, w', hrun, hg⟩ | ⟨v, w', hrun, hg⟩ | ⟨f, args, w', hrun, hcalls⟩
    · rcases hrun with hrun | ⟨hrun, hv⟩
      · rw [hrun]; exact key v w' hg
      · rw [hrun]; subst hv; exact key _ w' hg
    · obtain ⟨_, _, _, hF, _⟩ := hg; exact hF.elim
    · rw [hrun]
      refine Calls.mono hcalls ?_
      intro e w'' he
      rcases he with ⟨v, rfl, hg⟩ | ⟨v, rfl, hg⟩
      · exact key v w'' hg
      · obtain ⟨_, _, _, hF, _⟩ := hg; exact hF.elim
  have skip : (AV.v undef, memA M0 big R (mk j) j) = R j → K (a.put o.dst undef) w := fun e => key undef w (.here hA e (.v _))
  unfold wpOp
  simp only [ho]
  rcases drawOp_ok hop with ⟨hg, hh⟩ | ⟨g, want, p, d, hg, hp, hdp, hh⟩
  · rw [if_pos (by simp [Region.wanted, hg])]
    exact .inl (go hh)
  · have hpok := hall p (List.mem_of_getElem? hp)
    have hlt : d < a.tmps.size := by rw [h.size]; exact hpok.1 d hdp
    obtain ⟨y1, y2⟩ := yielded_rel hT hp hdp hlt
    rcases hh with ⟨b, hb, h1, h2⟩ | ⟨h1, h2, h3, h4⟩
    · have hy := y1 b hb
      by_cases e : b = want
      · rw [if_pos (by simp [Region.wanted, hg, hy, e])]
        exact .inl (go (h1 e))
      · rw [if_neg (by simp [Region.wanted, hg, hy, e])]
        exact skip (h2 e)
    · rw [if_neg (by simp [Region.wanted, hg, y2 h1 h2 h3])]
      exact skip h4

omit hc in
/-- A store to what is there, in the first part. -/
theorem draw_stepS (hm : MaskOk ops.toList mk) (hd : dstsOk ops.toList = true) (hbig : 0 < big) (gok : GOk M0 φ0 w0 G) {listed : Nat → Prop} {φ : Phi} {w : World} {a : Act} (h : DInv N n ds ops mk big M0 st0 φ0 w0 m R G listed φ w a)
    {j : Nat} (hj : j < m) {o : Oper} (ho : ops[j]? = some o) (hnl : ¬ listed j) (hanc : ∀ i, Nat.testBit (mk j) i = true → listed i)
    (hf : FltAt tt M0 G j (stA R st0 (mk j) ops.toList 0) o) (hRj : R j = (.v undef, memA M0 big R (mk j) j)) {QX : Exit → Act → World → Prop} {K : Act → World → Prop}
    (hK : ∀ φn w' a', DInv N n ds ops mk big M0 st0 φ0 w0 m R G (fun k => listed k ∨ k = j) φn w' a' → K a' w') : wpOp P ops QX j K a w := by
  have hT := h.tmpsA hm hd hanc
  obtain ⟨t, x, y, id, r, c, e, rs, cells, o1, o2, o3, hb, hx, hg, hG, k1, k2, k3, k4, k5, k6, k7⟩ := hf.ex
  obtain ⟨p, e', rs', cells', q1, q2, q3, q4, q5, q6, q7, q8, q9, q10, q11, q12⟩ := gok.at' j id _ _ hG
  rw [hg] at q2; cases q2
  have hv := evA_rel hT x
  rw [hx] at hv
  generalize hgv : a.eval x = xv at hv
  have hy := evA_rel hT y
  have hlow : restr φ (domA mk M0 big j) id = φ0 id := by rw [restr_of (.inl k2), h.i1 id k2]
  cases hv with
  | ptr _ _ _ p' hp' hps' =>
    have hpp : p' = p := by
      rw [hlow, q1] at hp'; cases hp'; rfl
    subst hpp
    have hob := h.i6.objs id
    rw [hg] at hob
    obtain ⟨p2, hp2, r1, r2, r3, r4, r5⟩ := hob
    rw [q1] at hp2; cases hp2
    have hat : p'.at r c = ⟨p'.b, r * rs + c, none⟩ := by simp [Pl.at, q4, q6, q5]
    have hsz1 : ∀ z, leafA z = true → z ≠ .top := by rintro z hz rfl; cases hz
    have hrel : AVsRel (restr φ (domA mk M0 big j)) (evA (stA R st0 (mk j) ops.toList 0) y).cells (a.eval y).cells.toList := by
      refine hy.cells (fun e => ?_) (fun v e => ?_)
      · rw [e] at k3; cases k3
      · rw [e] at k3
        obtain ⟨h1, _⟩ := bif2_tt (show bif2 (leafA (.v v)) (allLeaf []) false = true from k3)
        exact h1
    have hlen : (a.eval y).cells.toList.length = (tt t).size := by rw [← hrel.length, k4]
    obtain ⟨w', s1, s2, s3, s4, s5, s6, s7, s8, s9, s10⟩ := storeCells_world (P := P) (a.eval y).cells.toList (r * rs + c) 0 r3 (leaves_one _ k3 hrel) (by rw [hlen]; omega)
    simp only [Nat.add_zero] at s5 s6
    have hn := h.afterS hm hbig gok hj ho o3 hnl hanc hRj hG q1 s4 s3 (fun i z hz => ?_) (fun i hi => s6 i (by rw [hlen, ← k4]; exact hi)) s7 s8 s9 s10
    · unfold wpOp
      simp only [ho]
      rw [if_pos (by simp [Region.wanted, o2])]
      refine .inl ?_
      have hsz : (a.eval y).cells.size = (tt t).size := by rw [← hlen, Array.length_toList]
      have hrun : (execOp a.eval o).run P w = .ok .skip w' ∨ (execOp a.eval o).run P w = .ok (.value undef) w' := by
        unfold execOp
        rw [o1]
        rw [← hat] at s1
        simp [Instr.storeAt, Instr.sureAddr, hgv, storeVar, run_sizeOf' (tok t hb), hsz, s1]
      unfold Oper.wp
      rcases hrun with hrun | hrun
      · rw [hrun]; exact hK φ w' _ hn
      · rw [hrun]; exact hK φ w' _ hn
    · obtain ⟨z', hz', hzr⟩ := hrel.get i z hz
      exact ⟨z', s5 i z' hz', hzr⟩

omit hc in
/-- What is told by slots alone yields the same in any world. -/
theorem pure_yields {N' : Nat} {φ : Phi} {A : Mem} {w : World} {st : Tmps} {a : Act} (hr : Rep N' φ A w) (hT : TmpsRel φ st a.tmps) {o : Oper} {r : AV × Mem} (hw : Region.wanted o (yielded ops a.tmps) = true) (hp : pureV st o.op = true)
    (hop : (evOp ⟨P, tt, callF, A, st⟩ o.op).holds (· = r) (fun _ _ => False)) : ∃ v, Yields P ops o v a ∧ Good N' φ A w (· = r) v w := by
  have mkY : ∀ v, (∀ w, (execOp a.eval o).run P w = .ok (.value v) w) → Yields P ops o v a := fun v h => .inl ⟨hw, h⟩
  cases ho : o.op with
  | move x =>
    rw [ho] at hop
    exact ⟨a.eval x, mkY _ (fun w => by unfold execOp; rw [ho]; rfl), .here hr hop (evA_rel hT x)⟩
  | assign x =>
    rw [ho] at hop
    exact ⟨a.eval x, mkY _ (fun w => by unfold execOp; rw [ho]; rfl), .here hr hop (evA_rel hT x)⟩
  | pick c x y =>
    rw [ho] at hop
    obtain ⟨t, ht, h⟩ := onB_ok (show (onB (evA st c) fun t => .br t (.ret (evA st x, A)) (.ret (evA st y, A))).holds (· = r) (fun _ _ => False) from hop)
    have hc := evA_rel hT c
    rw [ht] at hc
    generalize hgc : a.eval c = cv at hc
    cases hc
    cases t with
    | true => exact ⟨a.eval x, mkY _ (fun w => by unfold execOp; rw [ho]; simp [hgc]; rfl), .here hr (h.1 rfl) (evA_rel hT x)⟩
    | false => exact ⟨a.eval y, mkY _ (fun w => by unfold execOp; rw [ho]; simp [hgc]; rfl), .here hr (h.2 rfl) (evA_rel hT y)⟩
  | extract t ix =>
    rw [ho] at hop
    obtain ⟨l, hl, h⟩ := onTup_ok (show (onTup (evA st t) fun l => (sel l ix).bind fun v => .ret (v, A)).holds (· = r) (fun _ _ => False) from hop)
    rw [T.holds_bind] at h
    obtain ⟨v, hv, hq⟩ := sel_ok h
    have ht := evA_rel hT t
    rw [hl] at ht
    generalize hgv : a.eval t = tv at ht
    cases ht with
    | tup _ vs hrel =>
      obtain ⟨z, hz, hzr⟩ := hrel.get _ _ hv
      have hz : vs[ix]? = some z := by simpa using hz
      exact ⟨z, mkY _ (fun w => by unfold execOp; rw [ho]; simp [hgv, Instr.extract, hz]), .here hr hq hzr⟩
  | binOp op t x y yt =>
    rw [ho] at hop hp
    obtain ⟨hb, h⟩ := onK_both (show (onK (tt t).u (evBin P tt A op t x y (evA st x) (evA st y)) (evBin P tt A op t x y (evA st x) (evA st y))).holds (· = r) (fun _ _ => False) from hop)
    obtain ⟨h1, h2⟩ := Bool.and_eq_true_iff.1 (show (isIA (evA st x) && isIA (evA st y)) = true from hp)
    have hu := evA_rel hT x
    have hv := evA_rel hT y
    generalize hgx : evA st x = xa at *
    generalize hgy : evA st y = ya at *
    have plain : (retM A (binA P (tt t).kind op t x y xa ya)).holds (· = r) (fun _ _ => False) := by
      cases xa with
      | i k n => cases ya <;> first | exact h | cases h2
      | b n => cases ya <;> first | exact h | cases h2
      | s n => cases ya <;> first | exact h | cases h2
      | _ => cases h1
    have hany : ∀ w, Val P φ w (fun v => (v, A) = r) (do eqGuard op t x y (a.eval x) (a.eval y); binOp op t (a.eval x) (a.eval y)) := fun w => binA_ok tok hb hu hv (retM_ok plain)
    obtain ⟨z, xr, hrun, hxr, hz⟩ := hany w
    have hxi : isIA xr = true := by
      have hk : (binA P (tt t).kind op t x y xa ya).holds (fun v => isIA v = true) (fun _ _ => False) := by
        cases xa with
        | i k n =>
          cases ya with
          | i k' n' =>
            have hh : (bif2 (isSh op) (binI op k n n') (.br (decide (k = k')) (binI op k n n') .fail) : T AV).holds (fun v => (v, A) = r) (fun _ _ => False) := retM_ok plain
            show (bif2 (isSh op) (binI op k n n') (.br (decide (k = k')) (binI op k n n') .fail) : T AV).holds (fun v => isIA v = true) (fun _ _ => False)
            have bi : (binI op k n n').holds (fun v => (v, A) = r) (fun _ _ => False) → (binI op k n n').holds (fun v => isIA v = true) (fun _ _ => False) := by
              intro hq
              cases op with
              | quo => exact ⟨fun e => (hq.1 e).elim, fun _ => rfl⟩
              | rem => exact ⟨fun e => (hq.1 e).elim, fun _ => rfl⟩
              | shl => exact ⟨fun e => (hq.1 e).elim, fun _ => rfl⟩
              | shr => exact ⟨fun e => (hq.1 e).elim, fun _ => rfl⟩
              | _ => exact rfl
            rw [bif2_eq] at hh ⊢
            split
            · rename_i e; rw [if_pos e] at hh; exact bi hh
            · rename_i e; rw [if_neg e] at hh
              exact ⟨fun e => bi (hh.1 e), fun e => hh.2 e⟩
          | b n' => exact (retM_ok plain).elim
          | s n' => exact (retM_ok plain).elim
          | _ => cases h2
        | b n =>
          cases ya with
          | b n' =>
            have hh : (binB (tt t).kind op n n').holds (fun v => (v, A) = r) (fun _ _ => False) := retM_ok plain
            show (binB (tt t).kind op n n').holds (fun v => isIA v = true) (fun _ _ => False)
            cases hc : (tt t).kind with
            | bool =>
              rw [hc] at hh
              cases op with
              | eql => exact rfl
              | neq => exact rfl
              | _ => exact hh.elim
            | _ => rw [hc] at hh; exact hh.elim
          | i k' n' => exact (retM_ok plain).elim
          | s n' => exact (retM_ok plain).elim
          | _ => cases h2
        | s n =>
          cases ya with
          | s n' =>
            have hh : (binS op n n').holds (fun v => (v, A) = r) (fun _ _ => False) := retM_ok plain
            show (binS op n n').holds (fun v => isIA v = true) (fun _ _ => False)
            cases op with
            | add => exact ⟨fun _ => rfl, fun e => (hh.2 e).elim⟩
            | eql => exact rfl
            | neq => exact rfl
            | lss => exact rfl
            | leq => exact rfl
            | gtr => exact rfl
            | geq => exact rfl
            | _ => exact hh.elim
          | i k' n' => exact (retM_ok plain).elim
          | b n' => exact (retM_ok plain).elim
          | _ => cases h2
        | _ => cases h1
      obtain ⟨a1, h3, h4⟩ := T.leaf hk
      obtain ⟨a2, h5, h6⟩ := T.leaf (retM_ok plain)
      have e1 : a1 = xr := by
        have e2 : a1 = a2 := T.leaf_eq h4 h6
        have e3 : a2 = xr := by rw [← hxr] at h5; exact (Prod.mk.inj h5).1
        rw [e2, e3]
      rw [← e1]; exact h3
    refine ⟨z, mkY _ (fun w' => ?_), .here hr hxr hz⟩
    obtain ⟨z', xr', hrun', hxr', hz'⟩ := hany w'
    have e : xr' = xr := (Prod.mk.inj (hxr'.trans hxr.symm)).1
    subst e
    have ez : z' = z := by cases xr' <;> first | (cases hz; cases hz'; rfl) | cases hxi
    subst ez
    unfold execOp; rw [ho]
    simp only [Sem.run_bind] at hrun' ⊢
    revert hrun'
    cases (eqGuard op t x y (a.eval x) (a.eval y)).run P w' with
    | ok u w1 =>
      simp only [Result.andThen_ok]
      intro hrun'
      simp [hrun']
    | halt e w1 => intro hrun'; cases hrun'
  | _ => rw [ho] at hp; cases hp

def PureAt (ops : Array Oper) (mk : Nat → Nat) (st0 : Tmps) (R : DR) (G : GS) (u : Nat) : Prop := ∃ o, ops[u]? = some o ∧ G u = none ∧ pv0 ops.toList u o = true ∧ PW ops.toList (stA R st0 (mk u) ops.toList 0) o
omit tok hc in
theorem pv0_spec {u : Nat} {o : Oper} (h : pv0 ops.toList u o = true) : ∀ j oj, ops[j]? = some oj → u < j → (∀ e ∈ oj.after, Region.binds .any e = true → e.on ≠ u) → o.apart ops oj = true := by
  intro j oj hj hlt hno
  obtain ⟨_, h⟩ := Bool.and_eq_true_iff.1 (show (pureK o.op && freeU ops.toList u o) = true from h)
  unfold freeU at h
  rw [List.all_eq_true] at h
  have hm : oj ∈ ops.toList.drop (u + 1) := by
    have h1 : (ops.toList.drop (u + 1))[j - (u + 1)]? = some oj := by rw [List.getElem?_drop, show u + 1 + (j - (u + 1)) = j by omega]; simpa using hj
    exact List.mem_of_getElem? h1
  rcases Bool.or_eq_true_iff.1 (h oj hm) with h1 | h1
  · rw [List.any_eq_true] at h1
    obtain ⟨e, he, hb⟩ := h1
    obtain ⟨hb1, hb2⟩ := Bool.and_eq_true_iff.1 hb
    exact absurd (Nat.eq_of_beq_eq_true hb2) (hno e (by simpa using he) hb1)
  · simpa using h1
omit hc in
/-- The same, carried out or not. -/
theorem pw_yields {N' : Nat} {φ : Phi} {A : Mem} {w : World} {st : Tmps} {a : Act} (hr : Rep N' φ A w) (hT : TmpsRel φ st a.tmps) (hsz : ∀ p ∈ ops.toList, ∀ d, p.dst = some d → d < a.tmps.size) {o : Oper} {r : AV × Mem} (hp : PW ops.toList st o)
    (hop : (drawOp P tt callF ops.toList A st o).holds (· = r) (fun _ _ => False)) : ∃ v, Yields P ops o v a ∧ Good N' φ A w (· = r) v w := by
  rcases drawOp_ok hop with ⟨hg, hh⟩ | ⟨g, want, p, d, hg, hpp, hdp, hh⟩
  · exact pure_yields tok hr hT (by simp [Region.wanted, hg]) (hp.1 hg) hh
  · obtain ⟨y1, y2⟩ := yielded_rel hT (by simpa using hpp) hdp (hsz p (List.mem_of_getElem? hpp) d hdp)
    have skip : Region.wanted o (yielded ops a.tmps) = false → (AV.v undef, A) = r → ∃ v, Yields P ops o v a ∧ Good N' φ A w (· = r) v w := fun h e => ⟨undef, .inr ⟨h, rfl⟩, .here hr e (.v _)⟩
    rcases hh with ⟨b, hb, h1, h2⟩ | ⟨h1, h2, h3, h4⟩
    · have hy := y1 b hb
      by_cases e : b = want
      · exact pure_yields tok hr hT (by simp [Region.wanted, hg, hy, e]) (hp.2 _ hg p d hpp hdp (by rw [hb, e])) (h1 e)
      · exact skip (by simp [Region.wanted, hg, hy, e]) (h2 e)
    · exact skip (by simp [Region.wanted, hg, y2 h1 h2 h3]) h4
theorem draw_any (hall : ∀ o ∈ ops.toList, OpOk P n o) (hm : MaskOk ops.toList mk) (hd : dstsOk ops.toList = true) (hbig : 0 < big) (hms : m ≤ ops.size) (hsp : ∀ i, m ≤ i → i < ops.size → ∀ u, u < i → Nat.testBit (mk i) u = true ∨ (u < m ∧ PureAt ops mk st0 R G u))
    (hsel : Region.noSelect ops = true) {QX : Exit → Act → World → Prop} (hQ : ∀ (d : Option Tmp) v c a w, QX (.panic c) (a.put d v) w → QX (.panic c) a w)
    (gok : GOk M0 φ0 w0 G)
    (hR : ∀ j o, j < m → ops[j]? = some o → (G j = none ∧ (drawOp P tt callF ops.toList (memA M0 big R (mk j) j) (stA R st0 (mk j) ops.toList 0) o).holds (· = R j) (fun _ _ => False) ∧ (R j).2.next ≤ M0.next + (j + 1) * big) ∨
      (FltAt tt M0 G j (stA R st0 (mk j) ops.toList 0) o ∧ R j = (.v undef, memA M0 big R (mk j) j)))
    {Q : Tmps × Mem → Prop} {Qp : AV → Mem → Prop}
    (hend : ∀ φ a w, StOk N n ds φ (memF M0 big m R G) w (stA R st0 (Nat.sub (Nat.pow 2 m) 1) (ops.toList.take m) 0) a →
      Ext φ0 M0 w0 φ (memF M0 big m R G) w → (∀ t, (∀ k o, k < m → ops[k]? = some o → o.dst ≠ some t) → AVRel φ0 (st0 t) (a.tmps.getD t undef)) →
      ∃ φ' st' M', (evOps P tt callF ops.toList (ops.toList.drop m) st' M').holds Q Qp ∧ StOk N n ds φ' M' w st' a ∧ Ext φ0 M0 w0 φ' M' w)
    (hq : ∀ φ' M' w' st' a', Q (st', M') → StOk N n ds φ' M' w' st' a' → Ext φ0 M0 w0 φ' M' w' → QX .normal a' w') (hp : PanOk N ds φ0 M0 w0 Qp QX) :
    ∀ (fuel : Nat) (listed : Array Bool) (a : Act) (w : World), listed.size = ops.size → unl ops.size listed = fuel →
      ((∃ φ, DInv N n ds ops mk big M0 st0 φ0 w0 m R G (fun k => listed.getD k false = true) φ w a) ∨
       (∃ i st M φ, m ≤ i ∧ i ≤ ops.size ∧ (∀ k, listed.getD k false = true ↔ k < i) ∧ (evOps P tt callF ops.toList (ops.toList.drop i) st M).holds Q Qp ∧ StOk N n ds φ M w st a ∧ Ext φ0 M0 w0 φ M w)) →
      wpAny P .any ops QX fuel listed a w := by
  have hbit : ∀ i k, Nat.testBit (2 ^ i - 1) k = true ↔ k < i := fun i k => by rw [Nat.testBit_two_pow_sub_one]; simp
  intro fuel
  induction fuel with
  | zero =>
    intro listed a w hsz hu hinv
    have hallL := unl_zero hu
    have hr : Region.ready .any ops listed = [] := by
      rw [List.eq_nil_iff_forall_not_mem]
      intro i hi
      rw [mem_ready] at hi
      obtain ⟨h1, o, ho, _⟩ := hi
      have hlt : i < ops.size := (Array.getElem?_eq_some_iff.1 ho).1
      rw [hallL i hlt] at h1; cases h1
    refine ⟨hr, ?_⟩
    have hinv2 : ∃ st M φ, (evOps P tt callF ops.toList [] st M).holds Q Qp ∧ StOk N n ds φ M w st a ∧ Ext φ0 M0 w0 φ M w := by
      rcases hinv with ⟨φ, h⟩ | ⟨i, st, M, φ, h1, h2, h3, h4, h5, h6⟩
      · have hm2 : m = ops.size := by
          rcases Nat.lt_or_ge m ops.size with h1 | h1
          · have := h.im m (by rw [← getD_tf hsz h1]; exact hallL m h1); omega
          · omega
        obtain ⟨h1, h2⟩ := h.finish hbig gok (fun k hk => by rw [← getD_tf hsz (by omega)]; exact hallL k (by omega))
        obtain ⟨φ', st', M', e1, e2, e3⟩ := hend φ a w h1 h2 (fun t ht => h.i4 t fun k o hk ho => ht k o (h.im k hk) ho)
        have hdrop : ops.toList.drop m = [] := by rw [hm2]; simp
        rw [hdrop] at e1
        exact ⟨st', M', φ', e1, e2, e3⟩
      · have hi : i = ops.size := by
          rcases Nat.lt_or_ge i ops.size with h7 | h7
          · have := (h3 i).1 (by rw [← getD_tf hsz h7]; exact hallL i h7); omega
          · omega
        refine ⟨st, M, φ, ?_, h5, h6⟩
        have hdrop : ops.toList.drop i = [] := by rw [hi]; simp
        rw [hdrop] at h4; exact h4
    obtain ⟨st, M, φ, h1, h2, h3⟩ := hinv2
    exact hq φ M w st a h1 h2 h3
  | succ fuel ih =>
    intro listed a w hsz hu hinv
    -- if the first part is done, go on with the second
    have hinv' : ((∃ φ, DInv N n ds ops mk big M0 st0 φ0 w0 m R G (fun k => listed.getD k false = true) φ w a) ∧ ∃ k, k < m ∧ listed.getD k false = false) ∨
       (∃ i st M φ, m ≤ i ∧ i ≤ ops.size ∧ (∀ k, listed.getD k false = true ↔ k < i) ∧ (evOps P tt callF ops.toList (ops.toList.drop i) st M).holds Q Qp ∧ StOk N n ds φ M w st a ∧ Ext φ0 M0 w0 φ M w) := by
      rcases hinv with ⟨φ, h⟩ | h
      · by_cases hex : ∃ k, k < m ∧ listed.getD k false = false
        · exact .inl ⟨⟨φ, h⟩, hex⟩
        · right
          have hl : ∀ k, k < m → listed.getD k false = true := fun k hk => by
            cases hb : listed.getD k false with
            | true => rfl
            | false => exact (hex ⟨k, hk, hb⟩).elim
          obtain ⟨h1, h2⟩ := h.finish hbig gok hl
          obtain ⟨φ', st', M', e1, e2, e3⟩ := hend φ a w h1 h2 (fun t ht => h.i4 t fun k o hk ho => ht k o (h.im k hk) ho)
          exact ⟨m, st', M', φ', Nat.le_refl _, hms, fun k => ⟨fun hk => h.im k hk, fun hk => hl k hk⟩, e1, e2, e3⟩
      · exact .inr h
    clear hinv
    have hcl : ∀ i, i ∈ Region.ready .any ops listed → (∀ k, listed.getD k false = true → ∀ i, Nat.testBit (mk k) i = true → listed.getD i false = true) → ∀ k, Nat.testBit (mk i) k = true → listed.getD k false = true := by
      intro i hi hclosed k hk
      rw [mem_ready] at hi
      obtain ⟨_, o, ho, he⟩ := hi
      obtain ⟨e, hee, hb, hh⟩ := hm.via i o (by simpa using ho) k hk
      rcases hh with hh | rfl
      · exact hclosed _ (he e hee hb) k hh
      · exact he e hee hb
    have hfirst : ∀ i, i < ops.size → listed.getD i false = false → (∀ k, k < i → listed.getD k false = true) → i ∈ Region.ready .any ops listed := by
      intro i hi hni hlt
      rw [mem_ready]
      have ho : ops[i]? = some ops[i] := Array.getElem?_eq_getElem hi
      refine ⟨by rw [getD_tf hsz hi]; exact hni, _, ho, fun e he hb => hlt e.on ?_⟩
      exact hm.lt i e.on (hm.edge i _ (by simpa using ho) e he hb)
    have hleast : ∀ k, listed.getD k false = false → ∃ i, i ≤ k ∧ listed.getD i false = false ∧ ∀ q, q < i → listed.getD q false = true := by
      intro k
      induction k using Nat.strongRecOn with
      | _ k ihk =>
        intro hk
        by_cases hex : ∃ q, q < k ∧ listed.getD q false = false
        · obtain ⟨q, hq1, hq2⟩ := hex
          obtain ⟨i, h1, h2, h3⟩ := ihk q hq1 hq2
          exact ⟨i, by omega, h2, h3⟩
        · refine ⟨k, Nat.le_refl _, hk, fun q hq => ?_⟩
          cases hb : listed.getD q false with
          | true => rfl
          | false => exact (hex ⟨q, hq, hb⟩).elim
    have hset : ∀ i, i < ops.size → ∀ k, (listed.setIfInBounds i true).getD k false = true ↔ listed.getD k false = true ∨ k = i := by
      intro i hi k
      by_cases e : k = i
      · subst e; simp [hsz, hi]
      · rw [getD_set_ne false (Ne.symm e)]; simp [e]
    rcases hinv' with ⟨⟨φ, h⟩, k0, hk0, hk1⟩ | ⟨i0, st, M, φ, hmi, his, hlist, hev, hst, hext⟩
    · obtain ⟨i1, hi1a, hi1b, hi1c⟩ := hleast k0 hk1
      have hi1r := hfirst i1 (by omega) hi1b hi1c
      by_cases hpu : PureAt ops mk st0 R G i1
      · obtain ⟨o, ho, hGu, hp1, hp2⟩ := hpu
        have hap := pv0_spec hp1
        have hanc := hcl i1 hi1r h.cl
        obtain ⟨_, hop, hnext⟩ | ⟨hf, _⟩ := hR i1 o (by omega) ho
        case inr => obtain ⟨t, x, y, id, r, c, e, rs, cells, _, _, _, _, _, _, hG, _⟩ := hf.ex; rw [hGu] at hG; cases hG
        obtain ⟨v, hy, hgood⟩ := pw_yields tok (ops := ops) (h.repA hm hbig hanc) (h.tmpsA hm hd hanc) (fun p hp d hd' => by rw [h.size]; exact (hall p hp).1 d hd') hp2 hop
        have hlt : i1 < ops.size := by omega
        have hoo := hall o (by rw [Array.mem_toList_iff]; exact Array.mem_of_getElem? ho)
        obtain ⟨φn, hn⟩ := h.after hm hd hbig (by omega) ho hoo.1 (by rw [hi1b]; simp) hanc hnext hGu hgood
        refine wpAny_first ho (Region.noSelect_spec hsel) (fun c a w hx => hQ _ _ c a w hx) fuel listed a w ?_ hi1r hy ?_
        · intro j oj hj hji hun hno
          refine hap j oj hj ?_ hno
          rcases Nat.lt_or_ge i1 j with h1 | h1
          · exact h1
          · have h2 := hi1c j (by omega)
            rw [← getD_tf hsz (by omega), hun] at h2; cases h2
        · refine ih _ _ w (by simpa using hsz) ?_ (.inl ⟨φn, ?_⟩)
          · have := unl_set hlt hsz (by rw [getD_tf hsz hlt]; exact hi1b); omega
          · have e : (fun k => (listed.setIfInBounds i1 true).getD k false = true) = fun k => listed.getD k false = true ∨ k = i1 := by
              funext k; exact propext (hset i1 hlt k)
            rw [e]; exact hn
      refine ⟨fun hr => ?_, fun i hi => ?_⟩
      · rw [hr] at hi1r; cases hi1r
      · have hanc := hcl i hi h.cl
        have hi' := hi
        rw [mem_ready] at hi'
        obtain ⟨hni, o, ho, _⟩ := hi'
        have hlt : i < ops.size := (Array.getElem?_eq_some_iff.1 ho).1
        rw [getD_tf hsz hlt] at hni
        have him : i < m := by
          rcases Nat.lt_or_ge i m with h1 | h1
          · exact h1
          · rcases hsp i h1 hlt i1 (by omega) with h2 | ⟨_, h2⟩
            · have := hanc i1 h2
              rw [hi1b] at this; cases this
            · exact (hpu h2).elim
        have stp : ∀ K : Act → World → Prop, (∀ φn w' a', DInv N n ds ops mk big M0 st0 φ0 w0 m R G (fun k => listed.getD k false = true ∨ k = i) φn w' a' → K a' w') → wpOp P ops QX i K a w := by
          intro K hK
          rcases hR i o him ho with ⟨hGi, hop, hnext⟩ | ⟨hf, hRi⟩
          · exact draw_step tok hc hall hm hd hbig h him ho (by rw [hni]; simp) hanc hop hnext hGi hK
          · exact draw_stepS tok hm hd hbig gok h him ho (by rw [hni]; simp) hanc hf hRi hK
        refine stp _ ?_
        intro φn w' a' hn
        refine ih _ a' w' (by simpa using hsz) ?_ (.inl ⟨φn, ?_⟩)
        · have := unl_set hlt hsz (by rw [getD_tf hsz hlt]; exact hni); omega
        · have e : (fun k => (listed.setIfInBounds i true).getD k false = true) = fun k => listed.getD k false = true ∨ k = i := by
            funext k; exact propext (hset i hlt k)
          rw [e]; exact hn
    · refine ⟨fun hr => ?_, fun i hi => ?_⟩
      · have hi0 : i0 = ops.size := by
          rcases Nat.lt_or_ge i0 ops.size with h7 | h7
          · have hni : listed.getD i0 false = false := by
              cases hb : listed.getD i0 false with
              | false => rfl
              | true => have := (hlist i0).1 hb; omega
            have := hfirst i0 h7 hni (fun k hk => (hlist k).2 hk)
            rw [hr] at this; cases this
          · omega
        have hdrop : ops.toList.drop i0 = [] := by rw [hi0]; simp
        rw [hdrop] at hev
        exact hq φ M w st a hev hst hext
      · have hanc := hcl i hi (fun k hk q hq => (hlist q).2 (by have h1 := (hlist k).1 hk; have h2 := hm.lt _ _ hq; omega))
        have hi' := hi
        rw [mem_ready] at hi'
        obtain ⟨hni, o, ho, _⟩ := hi'
        have hlt : i < ops.size := (Array.getElem?_eq_some_iff.1 ho).1
        rw [getD_tf hsz hlt] at hni
        have hii : i = i0 := by
          have h1 : ¬ i < i0 := fun h => by rw [(hlist i).2 h] at hni; cases hni
          rcases Nat.lt_or_ge i0 i with h2 | h2
          · rcases hsp i (by omega) hlt i0 h2 with h4 | ⟨h4, _⟩
            · have := (hlist i0).1 (hanc i0 h4); omega
            · omega
          · omega
        subst hii
        have hcons : ops.toList.drop i = o :: ops.toList.drop (i + 1) := by
          have hl : i < ops.toList.length := by simpa using hlt
          rw [List.drop_eq_getElem_cons hl]
          congr 1
          have : ops.toList[i]? = some o := by simpa using ho
          rw [List.getElem?_eq_getElem hl] at this
          exact Option.some.inj this
        rw [hcons] at hev
        have hmem : o ∈ ops.toList := by rw [Array.mem_toList_iff]; exact Array.mem_of_getElem? ho
        have := evOps_step tok hc hall hev (hall o hmem) hst (K := wpAny P .any ops QX fuel (listed.setIfInBounds i true)) (QX := QX) (fun φ' M' w' st' a' h1 h2 h3 => by
          refine ih _ a' w' (by simpa using hsz) ?_ (.inr ⟨i + 1, st', M', φ', by omega, by omega, fun k => ?_, h1, h2, hext.trans h3⟩)
          · have := unl_set hlt hsz (by rw [getD_tf hsz hlt]; exact hni); omega
          · rw [hset i hlt k, hlist k]; omega) (hp.step hext)
        unfold wpOp
        simp only [ho]
        exact this

end
end Go.Eng
