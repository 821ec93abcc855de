/- An evaluator of the code of the model, and lemmas of its proof of soundness: what it tells of a call, the call does; no condition but those that each lemma names. -/
import Derived.Test.YtcmnaaopgffjdaaEngMb
import Derived.LoopN
import Derived.ProofKit
import Derived.OpenShut
set_option linter.all false
set_option linter.deprecated false
set_option autoImplicit false
namespace Go.Eng
open Go Go.RowKit
theorem forceN_eq {R : Type} (n : Nat) (k : Nat → R) : forceN n k = k n := by cases n <;> rfl
theorem masksK_eq {β : Type} (l : List Oper) : ∀ (j : Nat) (mk : Nat → Nat) (k : (Nat → Nat) → T β), masksK l j mk k = k (masks l j mk) := by
  induction l with
  | nil => intro j mk k; rfl
  | cons o l ih =>
    intro j mk k
    show (forceN (ancOf mk o.after.toList) fun m => masksK l (j + 1) (upd mk j m) k) = _
    rw [forceN_eq, ih]; rfl

theorem lateV_spec {all : List Oper} {mk : Nat → Nat} {F : Nat → Bool} {m i : Nat} (l : List Oper) : ∀ {u : Nat} (_ : lateV all mk F m i l u = true) {k : Nat} {o : Oper} (_ : l[k]? = some o) (_ : u + k < i),
    Nat.testBit (mk i) (u + k) = true ∨ (u + k < m ∧ pv0 all (u + k) o = true ∧ F (u + k) = true) := by
  induction l with
  | nil => intro u _ k o h; simp at h
  | cons p l ih =>
    intro u h k o hk hlt
    have h : bif2 (Nat.blt u i) (bif2 (Nat.testBit (mk i) u) (lateV all mk F m i l (u + 1)) (bif2 (Nat.blt u m && (pv0 all u p && F u)) (lateV all mk F m i l (u + 1)) false)) true = true := h
    have hui : Nat.blt u i = true := (by have : u < i := by omega
                                         simpa [Nat.blt_eq] using this)
    rw [bif2_eq, if_pos hui, bif2_eq] at h
    have step : lateV all mk F m i l (u + 1) = true → 0 < k → Nat.testBit (mk i) (u + k) = true ∨ (u + k < m ∧ pv0 all (u + k) o = true ∧ F (u + k) = true) := by
      intro h h0
      obtain ⟨k, rfl⟩ : ∃ q, k = q + 1 := ⟨k - 1, by omega⟩
      have := ih h (k := k) (o := o) (by simpa using hk) (by omega)
      rwa [show u + 1 + k = u + (k + 1) by omega] at this
    split at h
    · rename_i hb
      rcases Nat.eq_zero_or_pos k with e | e
      · subst e; exact .inl hb
      · exact step h e
    · rw [bif2_eq] at h
      split at h
      · rename_i hb
        rcases Nat.eq_zero_or_pos k with e | e
        · subst e
          have hp : p = o := by simpa using hk
          subst hp
          obtain ⟨h1, h2⟩ := Bool.and_eq_true_iff.1 hb
          obtain ⟨h2, h3⟩ := Bool.and_eq_true_iff.1 h2
          exact .inr ⟨by simpa [Nat.blt_eq] using h1, h2, h3⟩
        · exact step h e
      · cases h
theorem lateAll_spec {all : List Oper} {mk : Nat → Nat} {F : Nat → Bool} {m : Nat} (l : List Oper) : ∀ {i : Nat} (_ : lateAll all mk F m l i = true) {k : Nat} (_ : k < l.length), lateV all mk F m (i + k) all 0 = true := by
  induction l with
  | nil => intro i _ k h; simp at h
  | cons p l ih =>
    intro i h k hk
    have h : bif2 (lateV all mk F m i all 0) (lateAll all mk F m l (i + 1)) false = true := h
    rw [bif2_eq] at h
    split at h
    · rename_i hb
      rcases Nat.eq_zero_or_pos k with e | e
      · subst e; exact hb
      · obtain ⟨k, rfl⟩ : ∃ q, k = q + 1 := ⟨k - 1, by omega⟩
        have := ih h (k := k) (by simpa using hk)
        rwa [show i + 1 + k = i + (k + 1) by omega] at this
    · cases h

theorem unl_step (l : List Nat) (hn : l.Nodup) (f g : Nat → Bool) (i : Nat) (hi : i ∈ l) (hf : f i = true) (hg : g i = false) (he : ∀ k, k ≠ i → g k = f k) : (l.filter g).length + 1 = (l.filter f).length := by
  induction l with
  | nil => cases hi
  | cons x l ih =>
    rw [List.nodup_cons] at hn
    rcases List.mem_cons.1 hi with rfl | hi
    · have : l.filter g = l.filter f := List.filter_congr fun k hk => he k fun e => hn.1 (e ▸ hk)
      rw [List.filter_cons, List.filter_cons, hf, hg, this]; simp
    · have hx : x ≠ i := fun e => hn.1 (e ▸ hi)
      rw [List.filter_cons, List.filter_cons, he x hx]
      cases f x <;> simp [ih hn.2 hi]
def unl (n : Nat) (listed : Array Bool) : Nat := ((List.range n).filter fun k => !listed.getD k true).length
theorem unl_set {n : Nat} {listed : Array Bool} {i : Nat} (hi : i < n) (hs : listed.size = n) (h : listed.getD i true = false) : unl n (listed.setIfInBounds i true) + 1 = unl n listed := by
  unfold unl
  refine unl_step _ List.nodup_range _ _ i (by simpa using hi) (by simp [h]) ?_ fun k hk => ?_
  · simp [hs, hi]
  · rw [getD_set_ne true (Ne.symm hk)]
theorem unl_zero {n : Nat} {listed : Array Bool} (h : unl n listed = 0) : ∀ k, k < n → listed.getD k true = true := by
  intro k hk
  cases hb : listed.getD k true with
  | true => rfl
  | false =>
    have hm : k ∈ (List.range n).filter fun k => !listed.getD k true := List.mem_filter.2 ⟨by simpa using hk, by simp only [hb]; rfl⟩
    have := List.length_pos_of_mem hm
    unfold unl at h; omega
theorem getD_tf {listed : Array Bool} {k n : Nat} (hs : listed.size = n) (hk : k < n) : listed.getD k true = listed.getD k false := by
  simp only [Array.getD_eq_getD_getElem?]
  rw [Array.getElem?_eq_getElem (by omega)]; rfl
theorem getD_out {listed : Array Bool} {k n : Nat} (hs : listed.size = n) (hk : n ≤ k) : listed.getD k false = false := by
  simp only [Array.getD_eq_getD_getElem?]
  rw [Array.getElem?_eq_none (by omega)]; rfl
theorem unl_init (n : Nat) : unl n (Array.replicate n false) = n := by
  unfold unl
  have : ((List.range n).filter fun k => !(Array.replicate n false).getD k true) = List.range n := by
    refine List.filter_eq_self.2 fun k hk => ?_
    have hk : k < n := by simpa using hk
    simp [Array.getD_eq_getD_getElem?, hk]
  rw [this]; simp

section
variable {P : Program} {tt : TT} {callF : FuncId → List AV → Mem → T (AV × Mem)} {N : NB} {n : Nat} {ds : List Deferred} {ops : Array Oper} {mk : Nat → Nat} {big : Nat} {M0 : Mem} {st0 : Tmps} {φ0 : Phi} {w0 : World} {m : Nat} {R : DR} {G : GS}

theorem setAt_spec (ps : List AV) : ∀ (l : List AV) (off i : Nat) (a : AV), (setAt ps l off)[i]? = some a → (off ≤ i ∧ ps[i - off]? = some a) ∨ l[i]? = some a := by
  induction ps with
  | nil => intro l off i a h; exact .inr h
  | cons x ps ih =>
    intro l off i a h
    have h : (setAt ps (l.set off x) (off + 1))[i]? = some a := h
    rcases ih _ _ _ _ h with ⟨h1, h2⟩ | h1
    · refine .inl ⟨by omega, ?_⟩
      rw [show i - off = (i - (off + 1)) + 1 by omega, List.getElem?_cons_succ]; exact h2
    · by_cases e : i = off
      · subst e
        rw [List.getElem?_set] at h1
        simp only [if_true] at h1
        split at h1
        · exact .inl ⟨Nat.le_refl _, by simpa using h1⟩
        · cases h1
      · rw [List.getElem?_set_ne (Ne.symm e)] at h1; exact .inr h1
theorem setAt_len (ps : List AV) : ∀ (l : List AV) (off : Nat), (setAt ps l off).length = l.length := by
  induction ps with
  | nil => intro l off; rfl
  | cons x ps ih =>
    intro l off
    show (setAt ps (l.set off x) (off + 1)).length = _
    rw [ih]; simp
theorem putO_own {l : List AV} {off : Nat} {o : AObj} : isOwn (putO l off o) ↔ isOwn o := by cases o <;> exact Iff.rfl
theorem finO_own {G : GS} {m id : Nat} {o : AObj} : isOwn (finO G m id o) ↔ isOwn o := by
  induction m with
  | zero => exact Iff.rfl
  | succ k ih =>
    show isOwn (@Option.rec (Nat × Nat × List AV) (fun _ => AObj) (finO G k id o) (fun g => bif2 (Nat.beq g.1 id) (putO g.2.2 g.2.1 (finO G k id o)) (finO G k id o)) (G k)) ↔ _
    cases G k with
    | none => exact ih
    | some g =>
      show isOwn (bif2 (Nat.beq g.1 id) (putO g.2.2 g.2.1 (finO G k id o)) (finO G k id o)) ↔ _
      rw [bif2_eq]
      split
      · rw [putO_own]; exact ih
      · exact ih
theorem finO_cells {G : GS} {id : Nat} {e : TypeId} {rs : Nat} {cells : List AV} : ∀ (m : Nat), ∃ cells', finO G m id (.own e rs cells) = .own e rs cells' ∧ cells'.length = cells.length ∧
    ∀ i a, cells'[i]? = some a → (∃ k off l, k < m ∧ G k = some (id, off, l) ∧ off ≤ i ∧ l[i - off]? = some a) ∨ cells[i]? = some a := by
  intro m
  induction m with
  | zero => exact ⟨cells, rfl, rfl, fun i a h => .inr h⟩
  | succ k ih =>
    obtain ⟨c1, h1, h2, h3⟩ := ih
    have hs : finO G (k + 1) id (.own e rs cells) = @Option.rec (Nat × Nat × List AV) (fun _ => AObj) (finO G k id (.own e rs cells)) (fun g => bif2 (Nat.beq g.1 id) (putO g.2.2 g.2.1 (finO G k id (.own e rs cells))) (finO G k id (.own e rs cells))) (G k) := rfl
    rw [h1] at hs
    have keep : ∀ i a, c1[i]? = some a → (∃ k' off l, k' < k + 1 ∧ G k' = some (id, off, l) ∧ off ≤ i ∧ l[i - off]? = some a) ∨ cells[i]? = some a := fun i a h => by
      rcases h3 i a h with ⟨k', off, l, h4, h5⟩ | h4
      · exact .inl ⟨k', off, l, by omega, h5⟩
      · exact .inr h4
    cases hg : G k with
    | none => rw [hg] at hs; exact ⟨c1, hs, h2, keep⟩
    | some g =>
      obtain ⟨id', off, l⟩ := g
      rw [hg] at hs
      have hs : finO G (k + 1) id (.own e rs cells) = bif2 (Nat.beq id' id) (.own e rs (setAt l c1 off)) (.own e rs c1) := hs
      rw [bif2_eq] at hs
      split at hs
      · rename_i he
        have he := Nat.eq_of_beq_eq_true he
        subst he
        refine ⟨_, hs, by rw [setAt_len, h2], fun i a h => ?_⟩
        rcases setAt_spec _ _ _ _ _ h with ⟨h5, h6⟩ | h5
        · exact .inl ⟨k, off, l, by omega, hg, h5, h6⟩
        · exact keep i a h5
      · exact ⟨c1, hs, h2, keep⟩
theorem finO_other {G : GS} {id m : Nat} {o : AObj} (h : ¬ isOwn o ∨ (∃ e n c, o = .vec e n c) ∨ ∃ a b, o = .map a b) : finO G m id o = o := by
  induction m with
  | zero => rfl
  | succ k ih =>
    have hs : finO G (k + 1) id o = @Option.rec (Nat × Nat × List AV) (fun _ => AObj) (finO G k id o) (fun g => bif2 (Nat.beq g.1 id) (putO g.2.2 g.2.1 (finO G k id o)) (finO G k id o)) (G k) := rfl
    rw [ih] at hs
    rw [hs]
    cases G k with
    | none => rfl
    | some g =>
      show bif2 (Nat.beq g.1 id) (putO g.2.2 g.2.1 o) o = o
      rw [bif2_eq]
      split
      · rcases h with h | ⟨e, n, c, rfl⟩ | ⟨a, b, rfl⟩
        · cases o <;> first | rfl | exact absurd trivial h
        · rfl
        · rfl
      · rfl
theorem anyG_false {G : GS} : ∀ (m : Nat), anyG G m = false → ∀ k, k < m → G k = none := by
  intro m
  induction m with
  | zero => intro _ k hk; omega
  | succ j ih =>
    intro h k hk
    have h : @Option.rec (Nat × Nat × List AV) (fun _ => Bool) (anyG G j) (fun _ => true) (G j) = false := h
    cases hg : G j with
    | none =>
      rw [hg] at h
      rcases Nat.lt_or_ge k j with h1 | h1
      · exact ih h k h1
      · obtain rfl : k = j := by omega
        exact hg
    | some g => rw [hg] at h; cases h
theorem finO_none {G : GS} {id : Nat} {o : AObj} : ∀ (m : Nat), (∀ k, k < m → G k = none) → finO G m id o = o := by
  intro m
  induction m with
  | zero => intro _; rfl
  | succ j ih =>
    intro h
    have hs : finO G (j + 1) id o = @Option.rec (Nat × Nat × List AV) (fun _ => AObj) (finO G j id o) (fun g => bif2 (Nat.beq g.1 id) (putO g.2.2 g.2.1 (finO G j id o)) (finO G j id o)) (G j) := rfl
    rw [hs, h j (by omega)]
    exact ih fun k hk => h k (by omega)
/-- The memory behind the first part. -/
noncomputable def memF (M0 : Mem) (big m : Nat) (R : DR) (G : GS) : Mem := ⟨M0.next + m * big, M0.lock, bif2 (anyG G m) (fun id => finO G m id ((memA M0 big R (Nat.sub (Nat.pow 2 m) 1) 0).get id)) (memA M0 big R (Nat.sub (Nat.pow 2 m) 1) 0).get⟩
/-- What is there behind the first part, but for the stores. -/
noncomputable def obj1 (M0 : Mem) (big m : Nat) (R : DR) (id : Nat) : AObj := if id < M0.next then M0.get id else if ow M0 big id < m then (R (ow M0 big id)).2.get id else .dead
theorem memF_get {id : Nat} : (memF M0 big m R G).get id = finO G m id (obj1 M0 big m R id) := by
  have hbit : ∀ k, Nat.testBit (Nat.sub (Nat.pow 2 m) 1) k = true ↔ k < m := by
    intro k
    show Nat.testBit (2 ^ m - 1) k = true ↔ _
    rw [Nat.testBit_two_pow_sub_one]; simp
  have hA : (memA M0 big R (Nat.sub (Nat.pow 2 m) 1) 0).get id = obj1 M0 big m R id := by
    rw [memA_get]
    unfold obj1
    by_cases h1 : id < M0.next
    · rw [if_pos h1, if_pos h1]
    · rw [if_neg h1, if_neg h1]
      by_cases h2 : ow M0 big id < m
      · rw [if_pos h2, if_pos ((hbit _).2 h2)]
      · rw [if_neg h2, if_neg (fun e => h2 ((hbit _).1 e))]
  show (bif2 (anyG G m) (fun id => finO G m id ((memA M0 big R (Nat.sub (Nat.pow 2 m) 1) 0).get id)) (memA M0 big R (Nat.sub (Nat.pow 2 m) 1) 0).get) id = _
  rw [bif2_eq]
  split
  · show finO G m id ((memA M0 big R (Nat.sub (Nat.pow 2 m) 1) 0).get id) = _
    rw [hA]
  · rename_i h
    have h : anyG G m = false := by cases hh : anyG G m with | false => rfl | true => exact absurd hh h
    rw [hA, finO_none m (anyG_false m h)]

/-- The first part is done. -/
theorem DInv.finish (hbig : 0 < big) (gok : GOk mk big M0 φ0 w0 R G) {listed : Nat → Prop} {φ : Phi} {w : World} {a : Act} (h : DInv N n ds ops mk big M0 st0 φ0 w0 m R G listed φ w a) (hl : ∀ k, k < m → listed k) :
    StOk N n ds φ (memF M0 big m R G) w (stA R st0 (Nat.sub (Nat.pow 2 m) 1) (ops.toList.take m) 0) a ∧
      Ext φ0 M0 w0 φ (memF M0 big m R G) w := by
  have hbit : ∀ k, Nat.testBit (Nat.sub (Nat.pow 2 m) 1) k = true ↔ k < m := by
    intro k
    show Nat.testBit (2 ^ m - 1) k = true ↔ _
    rw [Nat.testBit_two_pow_sub_one]; simp
  have h0 : ∀ id, M0.next ≤ id → φ0 id = none := fun id hid => (h.i6.fresh id hid).2
  have hle : PhiLe φ0 φ := fun id x e => by
    rcases Nat.lt_or_ge id M0.next with h1 | h1
    · rw [h.i1 id h1]; exact e
    · rw [h0 id h1] at e; cases e
  have hobj : ∀ id, ObjRel N φ w id (obj1 M0 big m R id) := fun id => by
    unfold obj1
    split
    · exact (h.i6.objs id).step hle (fun _ _ => rfl) (fun _ _ _ => rfl)
    · split
      · rename_i h1 h2
        have hob := (h.ir _ (hl _ h2)).objs id
        rw [onlyM_get (by omega) rfl] at hob
        exact hob.step restr_le' (fun _ _ => rfl) (fun _ _ _ => rfl)
      · exact h.i6.glob
  have toS : ∀ id, isOwn ((memF M0 big m R G).get id) → ownS M0 big R listed id := by
    intro id ho
    rw [memF_get, finO_own] at ho
    unfold obj1 at ho
    split at ho
    · exact .inl ⟨by assumption, ho⟩
    · split at ho
      · rename_i h1 h2; exact .inr ⟨by omega, hl _ h2, ho⟩
      · exact ho.elim
  refine ⟨⟨⟨fun id => ?_, fun id id' p p' ho ho' hp hp' e => h.i5 id id' p p' (toS id ho) (toS id' ho') hp hp' e, fun id p ho hp => ?_, fun id hid => ?_, h.i6.size⟩, fun t => ?_, h.size, h.defers⟩,
    ⟨hle, h.i1, (by show M0.next ≤ M0.next + m * big; omega), rfl, h.os, h.tape, h.output, h.wsize, fun b hb hno => h.keep b hb fun k id off l p hG hp => ?_, fun id p ho hp hb => ?_⟩⟩
  · rw [memF_get]
    have hob := hobj id
    by_cases hcase : ¬ isOwn (obj1 M0 big m R id) ∨ (∃ e n c, obj1 M0 big m R id = .vec e n c) ∨ ∃ a b, obj1 M0 big m R id = .map a b
    · rw [finO_other hcase]
      exact hob
    · cases hg : obj1 M0 big m R id with
      | own e rs cells =>
        rw [hg] at hob
        obtain ⟨p, hp, h1, h2, h3, h4, h5⟩ := hob
        obtain ⟨c', e1, e2, e3⟩ := finO_cells (G := G) (id := id) (e := e) (rs := rs) (cells := cells) m
        rw [e1]
        refine ⟨p, hp, h1, h2, h3, by rw [e2]; exact h4, fun j x hx => ?_⟩
        rcases e3 j x hx with ⟨k, off, l, k1, k2, k3, k4⟩ | k1
        · obtain ⟨z, hz, hzr⟩ := h.fs k (hl k k1) id off l p k2 hp (j - off) x k4
          rw [show off + (j - off) = j by omega] at hz
          exact ⟨z, hz, hzr.mono restr_le'⟩
        · exact h5 j x k1
      | dead => exact absurd (.inl (by rw [hg]; exact fun h => h)) hcase
      | ro a b c => exact absurd (.inl (by rw [hg]; exact fun h => h)) hcase
      | vec a b c => exact absurd (.inr (.inl ⟨a, b, c, hg⟩)) hcase
      | map a b => exact absurd (.inr (.inr ⟨a, b, hg⟩)) hcase
  · have hs := toS id ho
    rcases hs with ⟨h1, h2⟩ | ⟨h1, h2, h3⟩
    · rw [h.i1 id h1] at hp; exact h.i6.high id p h2 hp
    · refine (h.ir _ h2).high id p (by rw [onlyM_get h1 rfl]; exact h3) ?_
      rw [restr_of (.inr (.inl rfl))]; exact hp
  · have hid : M0.next + m * big ≤ id := hid
    have h1 : ¬ id < M0.next := by omega
    have h2 : ¬ ow M0 big id < m := by
      intro hlt
      rw [ow_lt hbig] at hlt
      omega
    refine ⟨?_, ?_⟩
    · have : obj1 M0 big m R id = .dead := by unfold obj1; rw [if_neg h1, if_neg h2]
      rw [memF_get, this]
      exact finO_other (.inl fun h => h)
    · cases hφ : φ id with
      | none => rfl
      | some x => exact absurd (h.im _ (h.i2 id (by omega) (by rw [hφ]; simp))) h2
  · rcases stA_spec (R := R) (st0 := st0) (anc := Nat.sub (Nat.pow 2 m) 1) (ops.toList.take m) 0 t with ⟨i, o, ho, hdt, hv⟩ | ⟨hno, hv⟩
    · rw [hv]
      rw [List.getElem?_take] at ho
      split at ho
      · rename_i him
        rw [if_pos (by rw [Nat.zero_add]; exact (hbit i).2 him), Nat.zero_add]
        exact (h.iv i (hl i him) o t (by simpa using ho) hdt).mono restr_le'
      · cases ho
    · rw [hv]
      refine (h.i4 t fun k o hk ho => hno k o ?_).mono hle
      rw [List.getElem?_take, if_pos (h.im k hk)]
      simpa using ho
  · obtain ⟨e, rs, cells, k2, _, _, k4, _⟩ := gok.at' k id off l hG
    have hid : id < M0.next := by
      rcases Nat.lt_or_ge id M0.next with h1 | h1
      · exact h1
      · rw [h0 id h1] at hp; cases hp
    rw [memA_get, if_pos hid] at k2
    exact hno id p k4 (by rw [k2]; trivial) hp
  · rcases toS id ho with ⟨h1, h2⟩ | ⟨h1, h2, h3⟩
    · exact ⟨id, p, h2, by rw [← h.i1 id h1]; exact hp, rfl, fun h => h⟩
    · have := h.i9 id p h1 (.inr ⟨h1, h2, h3⟩) hp
      omega

theorem Rep.blocks {N : NB} {φ : Phi} {M : Mem} {w w' : World} (h : Rep N φ M w) (hk : ∀ b, b < N.n → w'.heap[b]? = w.heap[b]?) (ho : ∀ id p, isOwn (M.get id) → φ id = some (some p) → w'.heap[p.b]? = w.heap[p.b]?) (hs : w.heap.size ≤ w'.heap.size) : Rep N φ M w' :=
  ⟨fun id => (h.objs id).step (.refl _) (fun b hb => hk b hb) (fun hw p hp => ho id p hw hp), h.sep, h.high, h.fresh, Nat.le_trans h.size hs⟩
/-- An object some of whose cells are written that nobody is told of. -/
theorem ObjRel.poke {N : NB} {φ : Phi} {w w' : World} {id : Nat} {e : TypeId} {rs off len : Nat} {cells : List AV} {p : Pl} (h : ObjRel N φ w id (.own e rs cells)) (hp : φ id = some (some p)) (hown : ∀ e n, OwnBlock w p.b e n → OwnBlock w' p.b e n)
    (htop : ∀ y ∈ (cells.drop off).take len, y = .top) (hin : ∀ i, i < len → ∃ z, w'.cell? ⟨p.b, off + i, none⟩ = some z) (hout : ∀ i, (i < off ∨ off + len ≤ i) → w'.cell? ⟨p.b, i, none⟩ = w.cell? ⟨p.b, i, none⟩) : ObjRel N φ w' id (.own e rs cells) := by
  obtain ⟨p1, hp1, r1, r2, r3, r4, r5⟩ := h
  rw [hp] at hp1; cases hp1
  refine ⟨p, hp, r1, r2, hown _ _ r3, r4, fun jx x hx => ?_⟩
  by_cases hr : jx < off ∨ off + len ≤ jx
  · rw [hout jx hr]; exact r5 jx x hx
  · have hlt : jx - off < len := by omega
    have hxt : x = .top := by
      refine htop x (List.mem_of_getElem? (i := jx - off) ?_)
      rw [List.getElem?_take, if_pos hlt, List.getElem?_drop, show off + (jx - off) = jx by omega]; exact hx
    obtain ⟨z, hz⟩ := hin (jx - off) hlt
    rw [show off + (jx - off) = jx by omega] at hz
    exact ⟨z, hz, by rw [hxt]; exact .top _⟩
/-- Behind a store to what is there. -/
theorem DInv.afterS (hm : MaskOk ops.toList mk) (hbig : 0 < big) (gok : GOk mk big M0 φ0 w0 R G) {listed : Nat → Prop} {φ : Phi} {w : World} {a : Act} (h : DInv N n ds ops mk big M0 st0 φ0 w0 m R G listed φ w a)
    {j : Nat} (hj : j < m) {o : Oper} (ho : ops[j]? = some o) (hdst : o.dst = none) (hnl : ¬ listed j) (hanc : ∀ i, Nat.testBit (mk j) i = true → listed i) (hRj : R j = (.v undef, memA M0 big R (mk j) j))
    {id off : Nat} {l : List AV} (hG : G j = some (id, off, l)) {p : Pl} (hp : φ id = some (some p)) {w' : World} (hother : ∀ b, b ≠ p.b → w'.heap[b]? = w.heap[b]?) (hown : ∀ e n, OwnBlock w p.b e n → OwnBlock w' p.b e n)
    (hin : ∀ i y, l[i]? = some y → ∃ z, w'.cell? ⟨p.b, off + i, none⟩ = some z ∧ AVRel (restr φ (domA mk M0 big j)) y z) (hout : ∀ i, (i < off ∨ off + l.length ≤ i) → w'.cell? ⟨p.b, i, none⟩ = w.cell? ⟨p.b, i, none⟩)
    (e1 : w'.os = w.os) (e2 : w'.tape = w.tape) (e3 : w'.output = w.output) (e4 : w'.heap.size = w.heap.size) :
    DInv N n ds ops mk big M0 st0 φ0 w0 m R G (fun k => listed k ∨ k = j) φ w' (a.put o.dst undef) := by
  obtain ⟨e, rs, cells, q2, q8, q9, q11, q12⟩ := gok.at' j id off l hG
  have hin1 : ∀ i, i < l.length → ∃ z, w'.cell? ⟨p.b, off + i, none⟩ = some z := fun i hi => by
    obtain ⟨z, hz, _⟩ := hin i _ (List.getElem?_eq_getElem hi); exact ⟨z, hz⟩
  have hjj : Nat.testBit (mk j) j = false := by
    cases hb : Nat.testBit (mk j) j with
    | false => rfl
    | true => have := hm.lt _ _ hb; omega
  have hdead : ∀ id, M0.next ≤ id → ow M0 big id = j → (R j).2.get id = .dead := fun id h1 h2 => by
    rw [hRj]
    show (memA M0 big R (mk j) j).get id = .dead
    rw [memA_get, if_neg (by omega), h2, hjj, if_neg (by simp)]
  have hput : (a.put o.dst undef).tmps = a.tmps := by rw [hdst]; rfl
  have hownS : ∀ id', ownS M0 big R (fun k => listed k ∨ k = j) id' → ownS M0 big R listed id' := by
    intro id' hid
    rcases hid with hid | ⟨h1, h2, h3⟩
    · exact .inl hid
    · rcases h2 with h2 | h2
      · exact .inr ⟨h1, h2, h3⟩
      · rw [h2, hdead id' h1 h2] at h3; exact h3.elim
  -- where the object is
  have hwhere : (id < M0.next ∧ M0.get id = .own e rs cells) ∨ (M0.next ≤ id ∧ listed (ow M0 big id) ∧ (R (ow M0 big id)).2.get id = .own e rs cells) := by
    rw [memA_get] at q2
    split at q2
    · exact .inl ⟨by assumption, q2⟩
    · split at q2
      · exact .inr ⟨by omega, hanc _ (by assumption), q2⟩
      · cases q2
  have hidS : ownS M0 big R listed id := by
    rcases hwhere with ⟨h1, h2⟩ | ⟨h1, h2, h3⟩
    · exact .inl ⟨h1, by rw [h2]; trivial⟩
    · exact .inr ⟨h1, h2, by rw [h3]; trivial⟩
  have hNp : N.n ≤ p.b := by
    rcases hwhere with ⟨h1, h2⟩ | ⟨h1, h2, h3⟩
    · rw [h.i1 id h1] at hp; exact h.i6.high id p (by rw [h2]; trivial) hp
    · refine (h.ir _ h2).high id p (by rw [onlyM_get h1 rfl, h3]; trivial) ?_
      rw [restr_of (.inr (.inl rfl))]; exact hp
  have hlow : ∀ b, b < N.n → w'.heap[b]? = w.heap[b]? := fun b hb => hother b (by omega)
  have hne : ∀ id' p', ownS M0 big R listed id' → φ id' = some (some p') → id' ≠ id → w'.heap[p'.b]? = w.heap[p'.b]? := fun id' p' ho' hp' hn => hother _ fun e => hn (h.i5 id' id p' p ho' hidS hp' hp e)
  refine ⟨h.i1, fun id hid hne => .inl (h.i2 id hid hne), fun k hk => ?_, fun k hk => ?_, fun k hk o' d ho' hd' => ?_, fun t ht => ?_, fun id1 id2 p1 p2 ho1 ho2 => h.i5 id1 id2 p1 p2 (hownS _ ho1) (hownS _ ho2), ?_,
    fun b hb hno => (hother b ?_).trans (h.keep b hb hno), fun k hk id2 off2 l2 p2 hG2 hp2 i y hy => ?_, e1.trans h.os, e2.trans h.tape, e3.trans h.output, by rw [e4]; exact h.wsize,
    by rw [hput]; exact h.size, (put_defers ..).trans h.defers, fun id' p1 hid ho1 hp1 => h.i9 id' p1 hid (hownS _ ho1) hp1, fun k hk i hi => ?_⟩
  · rcases hk with hk | rfl
    · exact h.im k hk
    · exact hj
  · rcases hk with hk | rfl
    · have hr := h.ir k hk
      refine ⟨fun id' => ?_, hr.sep, hr.high, hr.fresh, by rw [e4]; exact hr.size⟩
      have hob := hr.objs id'
      by_cases hid : id' = id
      · subst hid
        by_cases hk2 : M0.next ≤ id' ∧ ow M0 big id' = k
        · rcases hwhere with ⟨h1, _⟩ | ⟨h1, h2, h3⟩
          · omega
          · rw [onlyM_get hk2.1 hk2.2] at hob ⊢
            rw [hk2.2] at h3
            rw [h3] at hob ⊢
            exact hob.poke (by rw [restr_of (.inr (.inl hk2.2))]; exact hp) hown q9 hin1 hout
        · have : (onlyM M0 big k (R k).2).get id' = .dead := if_neg hk2
          rw [this]; exact h.i6.glob.same hlow
      · refine hob.step (.refl _) hlow (fun ho1 p1 hp1 => ?_)
        obtain ⟨k1, k2, k3⟩ := onlyM_own ho1
        exact hne id' p1 (.inr ⟨k1, by rw [k2]; exact hk, by rw [k2]; exact k3⟩) (restr_some hp1).2 hid
    · have hno : ∀ id', ¬ isOwn ((onlyM M0 big k (R k).2).get id') := fun id' ho1 => by
        obtain ⟨k1, k2, k3⟩ := onlyM_own ho1
        rw [hdead id' k1 k2] at k3; exact k3
      refine ⟨fun id' => ?_, fun id1 id2 p1 p2 ho1 => absurd ho1 (hno id1), fun id1 p1 ho1 => absurd ho1 (hno id1), fun id' hid => ?_, by rw [e4]; exact h.i6.size⟩
      · show ObjRel N _ w' id' (if M0.next ≤ id' ∧ ow M0 big id' = k then (R k).2.get id' else .dead)
        split
        · rename_i hh; rw [hdead id' hh.1 hh.2]; exact h.i6.glob.same hlow
        · exact h.i6.glob.same hlow
      · rw [hRj] at hid
        have hid : M0.next + k * big ≤ id' := hid
        refine ⟨?_, ?_⟩
        · show (if M0.next ≤ id' ∧ ow M0 big id' = k then (R k).2.get id' else .dead) = .dead
          split
          · rename_i hh; exact hdead id' hh.1 hh.2
          · rfl
        · cases hφ : restr φ (domP mk M0 big k) id' with
          | none => rfl
          | some x =>
            exfalso
            obtain ⟨d1, d2⟩ := restr_some hφ
            have hli := h.i2 id' (by omega) (by rw [d2]; simp)
            rcases d1 with d1 | d1 | d1
            · omega
            · rw [d1] at hli; exact hnl hli
            · have := hm.lt _ _ d1
              rw [ow_lt hbig] at this
              omega
  · rw [hput]
    rcases hk with hk | rfl
    · exact h.iv k hk o' d ho' hd'
    · rw [ho] at ho'; cases ho'; rw [hdst] at hd'; cases hd'
  · rw [hput]
    exact h.i4 t fun k o hk ho => ht k o (.inl hk) ho
  · refine ⟨fun id' => ?_, h.i6.sep, h.i6.high, h.i6.fresh, by rw [e4]; exact h.i6.size⟩
    have hob := h.i6.objs id'
    by_cases hid : id' = id
    · subst hid
      rcases hwhere with ⟨h1, h2⟩ | ⟨h1, h2, h3⟩
      · rw [h2] at hob ⊢
        exact hob.poke (by rw [← h.i1 id' h1]; exact hp) hown q9 hin1 hout
      · rw [(h.i6.fresh id' h1).1]; exact h.i6.glob.same hlow
    · refine hob.step (.refl _) (fun b hb => hlow b hb) (fun ho1 p1 hp1 => ?_)
      have hlt : id' < M0.next := by
        rcases Nat.lt_or_ge id' M0.next with h1 | h1
        · exact h1
        · rw [(h.i6.fresh id' h1).1] at ho1; exact ho1.elim
      exact hne id' p1 (.inl ⟨hlt, ho1⟩) (by rw [h.i1 id' hlt]; exact hp1) hid
  · intro e5
    subst e5
    rcases hwhere with ⟨h1, h2⟩ | ⟨h1, h2, h3⟩
    · rw [h.i1 id h1] at hp; exact hno j id off l p hG hp rfl
    · have := h.i9 id p h1 hidS hp; omega
  · rcases hk with hk | rfl
    · obtain ⟨z, hz, hzr⟩ := h.fs k hk id2 off2 l2 p2 hG2 hp2 i y hy
      by_cases hb : p2.b = p.b
      · have hid2 : ownS M0 big R listed id2 := by
          obtain ⟨e', rs', cells', s2, _⟩ := gok.at' k id2 off2 l2 hG2
          rw [memA_get] at s2
          split at s2
          · exact .inl ⟨by assumption, by rw [s2]; trivial⟩
          · split at s2
            · exact .inr ⟨by omega, h.cl k hk _ (by assumption), by rw [s2]; trivial⟩
            · cases s2
        have hid : id2 = id := h.i5 id2 id p2 p hid2 hidS hp2 hp hb
        subst hid
        rw [hp] at hp2; cases hp2
        have hne : k ≠ j := fun e => hnl (e ▸ hk)
        have hil : i < l2.length := (List.getElem?_eq_some_iff.1 hy).1
        refine ⟨z, ?_, hzr⟩
        rw [hout (off2 + i) ?_]
        · exact hz
        · rcases Nat.lt_or_ge k j with h1 | h1
          · rcases gok.dis k j id2 off l off2 l2 h1 hG2 hG with h2 | h2 <;> omega
          · rcases gok.dis j k id2 off2 l2 off l (by omega) hG hG2 with h2 | h2 <;> omega
      · exact ⟨z, by rw [cell_eq (hother _ hb)]; exact hz, hzr⟩
    · rw [hG] at hG2; cases hG2
      rw [hp] at hp2; cases hp2
      exact hin i y hy
  · rcases hk with hk | rfl
    · exact .inl (h.cl k hk i hi)
    · exact .inl (hanc i hi)
theorem storeCells_world {P : Program} {e : TypeId} {sz b : Nat} (zs : List Value) : ∀ {w : World} (o i : Nat) (_ : OwnBlock w b e sz) (_ : ∀ z ∈ zs, z.oneCell' = true) (_ : o + i + zs.length ≤ sz), ∃ w', (Go.storeCells ⟨b, o, none⟩ zs i).run P w = .ok () w' ∧ OwnBlock w' b e sz ∧
    (∀ e' n', OwnBlock w b e' n' → OwnBlock w' b e' n') ∧
    (∀ b', b' ≠ b → w'.heap[b']? = w.heap[b']?) ∧ (∀ k z, zs[k]? = some z → w'.cell? ⟨b, o + i + k, none⟩ = some z) ∧ (∀ k, (k < o + i ∨ o + i + zs.length ≤ k) → w'.cell? ⟨b, k, none⟩ = w.cell? ⟨b, k, none⟩) ∧
    w'.os = w.os ∧ w'.tape = w.tape ∧ w'.output = w.output ∧ w'.heap.size = w.heap.size := by
  induction zs with
  | nil => intro w o i h1 h2 h3; exact ⟨w, rfl, h1, fun _ _ h => h, fun _ _ => rfl, by simp, fun _ _ => rfl, rfl, rfl, rfl, rfl⟩
  | cons z zs ih =>
    intro w o i h1 h2 h3
    have hlt : o + i < sz := by simp only [List.length_cons] at h3; omega
    have hfree := h1.free hlt
    have hone := h2 z (by simp)
    have h1' := h1
    obtain ⟨cur, fz, hcur, hsz, hfz⟩ := h1
    have hz0 : w.cell? ⟨b, o + i, none⟩ = some cur[o + i] := by
      simp only [World.cell?, hcur]
      simp [hsz, hlt]
    have hblk := setCell_block w b (o + i) z cur e fz hcur
    have hrun : (store ⟨b, o + i, none⟩ z).run P w = .ok () (w.setCell ⟨b, o + i, none⟩ z) := by rw [run_store P w _ z _ hone, hz0]; simp [hfree]
    have hadd : (⟨b, o, none⟩ : Addr).add i = ⟨b, o + i, none⟩ := by
      unfold Addr.add
      split
      · rename_i h; subst h; rfl
      · rfl
    have tr : ∀ e' n', OwnBlock w b e' n' → OwnBlock (w.setCell ⟨b, o + i, none⟩ z) b e' n' := by
      rintro e' n' ⟨cur', fz', hcur', hsz', hfz'⟩
      rw [hcur] at hcur'; cases hcur'
      exact ⟨_, _, hblk, by simpa using hsz', hfz'⟩
    obtain ⟨w', k1, k2, k3, k4, k5, k6, k7, k8, k9, k10⟩ := ih (w := w.setCell ⟨b, o + i, none⟩ z) o (i + 1) (tr _ _ h1') (fun y hy => h2 y (by simp [hy])) (by simp only [List.length_cons] at h3; omega)
    have hself : (w.setCell ⟨b, o + i, none⟩ z).cell? ⟨b, o + i, none⟩ = some z := World.cell?_setCell_same _ _ _ hz0
    refine ⟨w', ?_, k2, fun e' n' h => k3 _ _ (tr _ _ h), fun b' hb' => (k4 b' hb').trans (setCell_other_block _ _ _ _ (Ne.symm hb')), fun k y hy => ?_, fun k hk => ?_, k7, k8, k9, by rw [k10]; simp⟩
    · rw [Go.storeCells]
      simp only [hadd, Sem.run_bind, hrun, Result.andThen_ok]
      exact k1
    · cases k with
      | zero =>
        have hy : z = y := by simpa using hy
        subst hy
        rw [k6 (o + i + 0) (by omega)]; exact hself
      | succ k =>
        have := k5 k y (by simpa using hy)
        rwa [show o + (i + 1) + k = o + i + (k + 1) by omega] at this
    · simp only [List.length_cons] at hk
      rw [k6 k (by omega)]
      exact World.cell?_setCell_other _ _ _ _ (by intro e; injection e with _ e; omega)
theorem leaves_one {φ : Phi} (l : List AV) : ∀ {zs : List Value}, allLeaf l = true → AVsRel φ l zs → ∀ z ∈ zs, z.oneCell' = true := by
  induction l with
  | nil => intro zs _ h; cases h; simp
  | cons x l ih =>
    intro zs hl h
    have hl : bif2 (leafA x) (allLeaf l) false = true := hl
    obtain ⟨h1, h2⟩ := bif2_tt hl
    cases h with
    | cons hx ht =>
      intro z hz
      rcases List.mem_cons.1 hz with rfl | hz
      · exact leafA_one h1 hx
      · exact ih h2 ht z hz

theorem putO_rel {N : NB} {φ : Phi} {w : World} {id n off : Nat} {o : AObj} (h : ObjRel N φ w id o) : ObjRel N φ w id (putO (topsL n) off o) := by
  cases o with
  | dead => trivial
  | ro a b c => exact h
  | vec a b c => exact h
  | map a b => exact h
  | own e rs cells =>
    obtain ⟨p, hp, h1, h2, h3, h4, h5⟩ := h
    refine ⟨p, hp, h1, h2, h3, by rw [setAt_len]; exact h4, fun j x hx => ?_⟩
    rcases setAt_spec _ _ _ _ _ hx with ⟨k1, k2⟩ | k1
    · have ht : ∀ (n : Nat) (y : AV), y ∈ topsL n → y = .top := by
        intro n
        induction n with
        | zero => intro y hy; cases hy
        | succ n ih => intro y hy; rcases List.mem_cons.1 (show y ∈ AV.top :: topsL n from hy) with rfl | hy
                       · rfl
                       · exact ih y hy
      have hlt : j < cells.length := by
        have := (List.getElem?_eq_some_iff.1 hx).1
        rwa [setAt_len] at this
      obtain ⟨z, hz, _⟩ := h5 j _ (List.getElem?_eq_getElem hlt)
      exact ⟨z, hz, by rw [ht n x (List.mem_of_getElem? k2)]; exact .top _⟩
    · exact h5 j x k1
theorem topO_rel {N : NB} {φ : Phi} {w : World} {id : Nat} {o : AObj} (tg : List (Nat × Nat × Nat)) (h : ObjRel N φ w id o) : ObjRel N φ w id (topO tg id o) := by
  induction tg with
  | nil => exact h
  | cons t tg ih =>
    show ObjRel N φ w id (bif2 (Nat.beq t.1 id) (putO (topsL t.2.2) t.2.1 (topO tg id o)) (topO tg id o))
    rw [bif2_eq]
    split
    · exact putO_rel ih
    · exact ih
theorem topO_own (tg : List (Nat × Nat × Nat)) {id : Nat} {o : AObj} : isOwn (topO tg id o) ↔ isOwn o := by
  induction tg with
  | nil => exact Iff.rfl
  | cons t tg ih =>
    show isOwn (bif2 (Nat.beq t.1 id) (putO (topsL t.2.2) t.2.1 (topO tg id o)) (topO tg id o)) ↔ _
    rw [bif2_eq]
    split
    · rw [putO_own]; exact ih
    · exact ih
theorem topO_dead (tg : List (Nat × Nat × Nat)) {id : Nat} : topO tg id .dead = .dead := by
  induction tg with
  | nil => rfl
  | cons t tg ih =>
    show bif2 (Nat.beq t.1 id) (putO (topsL t.2.2) t.2.1 (topO tg id .dead)) (topO tg id .dead) = .dead
    rw [bif2_eq, ih]
    split <;> rfl
theorem topM_same (tg : List (Nat × Nat × Nat)) (M : Mem) : (topM tg M).next = M.next ∧ (topM tg M).lock = M.lock ∧ ∀ id, isOwn ((topM tg M).get id) ↔ isOwn (M.get id) := by
  cases tg with
  | nil => exact ⟨rfl, rfl, fun _ => Iff.rfl⟩
  | cons t tg => exact ⟨rfl, rfl, fun id => topO_own (t :: tg)⟩
theorem topM_rep {N : NB} {φ : Phi} {M : Mem} {w : World} (tg : List (Nat × Nat × Nat)) (h : Rep N φ M w) : Rep N φ (topM tg M) w := by
  obtain ⟨e1, e2, e3⟩ := topM_same tg M
  refine ⟨fun id => ?_, fun id id' p p' h1 h2 => h.sep id id' p p' ((e3 _).1 h1) ((e3 _).1 h2), fun id p h1 => h.high id p ((e3 _).1 h1), fun id hid => ?_, h.size⟩
  · cases tg with
    | nil => exact h.objs id
    | cons t tg => exact topO_rel (t :: tg) (h.objs id)
  · rw [e1] at hid
    obtain ⟨f1, f2⟩ := h.fresh id hid
    refine ⟨?_, f2⟩
    cases tg with
    | nil => exact f1
    | cons t tg => show topO (t :: tg) id (M.get id) = .dead; rw [f1]; exact topO_dead _
theorem Ext.untop {φ φ' : Phi} {M M' : Mem} {w w' : World} {tg : List (Nat × Nat × Nat)} (h : Ext φ (topM tg M) w φ' M' w') : Ext φ M w φ' M' w' := by
  obtain ⟨e1, e2, e3⟩ := topM_same tg M
  refine ⟨h.phi, fun id hid => h.phi0 id (by rw [e1]; exact hid), by rw [← e1]; exact h.next, h.lock.trans e2, h.os, h.tape, h.output, h.size, fun b hb hno => h.keep b hb fun id p h1 h2 => hno id p (by rw [← e2]; exact h1) ((e3 _).1 h2), fun id p h1 h2 h3 => ?_⟩
  obtain ⟨id', p', k1, k2, k3, k4⟩ := h.old id p h1 h2 h3
  exact ⟨id', p', (e3 _).1 k1, k2, k3, fun k => by rw [← e2]; exact k4 (by rw [e2]; exact k)⟩
theorem Ext.top {φ φ' : Phi} {M M' : Mem} {w w' : World} (tg : List (Nat × Nat × Nat)) (h : Ext φ M w φ' M' w') : Ext φ M w φ' (topM tg M') w' := by
  obtain ⟨e1, e2, e3⟩ := topM_same tg M'
  exact ⟨h.phi, h.phi0, by rw [e1]; exact h.next, e2.trans h.lock, h.os, h.tape, h.output, h.size, h.keep, fun id p h1 h2 h3 => h.old id p ((e3 _).1 h1) h2 h3⟩
theorem Good.topN {N : NB} {φ : Phi} {M : Mem} {w w' : World} {v : Value} {x : AV × Mem} (l : List (Nat × Nat)) (h : Good N φ M w (· = x) v w') : Good N φ M w (· = topNew l x) v w' := by
  obtain ⟨φ', y, M', e, h1, h2, h3⟩ := h
  subst e
  cases l with
  | nil => exact ⟨φ', y, M', rfl, h1, h2, h3⟩
  | cons p l =>
    cases y with
    | ptr id r c => exact ⟨φ', _, _, rfl, h1, topM_rep _ h2, h3.top _⟩
    | _ => exact ⟨φ', _, M', rfl, h1, h2, h3⟩
variable (tok : TTok P tt) (hc : CallsOk P N callF)
include tok hc

/-- Operation j, in the first part. -/
theorem draw_step (hall : ∀ o ∈ ops.toList, OpOk P n o) (hm : MaskOk ops.toList mk) (hd : dstsOk ops.toList = true) (hbig : 0 < big) {listed : Nat → Prop} {φ : Phi} {w : World} {a : Act} (h : DInv N n ds ops mk big M0 st0 φ0 w0 m R G listed φ w a)
    {j : Nat} (hj : j < m) {o : Oper} (ho : ops[j]? = some o) (hnl : ¬ listed j) (hanc : ∀ i, Nat.testBit (mk j) i = true → listed i)
    {x : AV × Mem} {tl : List (Nat × Nat)} (hop : (drawOp P tt callF ops.toList (memA M0 big R (mk j) j) (stA R st0 (mk j) (effL mk j ops.toList 0) 0) o).holds (· = x) (fun _ _ => False)) (hRx : R j = topNew tl x) (hnext : (R j).2.next ≤ M0.next + (j + 1) * big) (gok : GOk mk big M0 φ0 w0 R G) (hGj : G j = none) {QX : Exit → Act → World → Prop} {K : Act → World → Prop}
    (hK : ∀ φn w' a', DInv N n ds ops mk big M0 st0 φ0 w0 m R G (fun k => listed k ∨ k = j) φn w' a' → K a' w') : wpOp P ops QX j K a w := by
  have hA := h.repA hm hbig hanc
  have hT := h.tmpsA hm hd hanc hnl
  have hoo := hall o (by rw [Array.mem_toList_iff]; exact Array.mem_of_getElem? ho)
  have key : ∀ v w', Good N (restr φ (domA mk M0 big j)) (memA M0 big R (mk j) j) w (· = x) v w' → K (a.put o.dst v) w' := by
    intro v w' hg
    obtain ⟨φn, hn⟩ := h.after hm hd hbig hj ho hoo.1 hnl hanc hnext gok hGj (by rw [hRx]; exact hg.topN tl)
    exact hK φn w' _ hn
  have go : (evOp ⟨P, tt, callF, memA M0 big R (mk j) j, stA R st0 (mk j) (effL mk j ops.toList 0) 0⟩ o.op).holds (· = x) (fun _ _ => False) → o.wp P a w K QX := by
    intro hh
    have hout := evOp_ok (K := ⟨P, tt, callF, memA M0 big R (mk j) j, stA R st0 (mk j) (effL mk j ops.toList 0) 0⟩) rfl tok hc hA hT o hh hoo.2
    unfold Oper.wp
    rcases hout with ⟨v, w', hrun, hg⟩ | ⟨v, w', hrun, hg⟩ | ⟨f, args, w', hrun, hcalls⟩
    · rcases hrun with hrun | ⟨hrun, hv⟩
      · rw [hrun]; exact key v w' hg
      · rw [hrun]; subst hv; exact key _ w' hg
    · obtain ⟨_, _, _, hF, _⟩ := hg; exact hF.elim
    · rw [hrun]
      refine Calls.mono hcalls ?_
      intro e w'' he
      rcases he with ⟨v, rfl, hg⟩ | ⟨v, rfl, hg⟩
      · exact key v w'' hg
      · obtain ⟨_, _, _, hF, _⟩ := hg; exact hF.elim
  have skip : (AV.v undef, memA M0 big R (mk j) j) = x → K (a.put o.dst undef) w := fun e => key undef w (.here hA e (.v _))
  unfold wpOp
  simp only [ho]
  rcases drawOp_ok hop with ⟨hg, hh⟩ | ⟨g, want, p, d, hg, hp, hdp, hh⟩
  · rw [if_pos (by simp [Region.wanted, hg])]
    exact .inl (go hh)
  · have hpok := hall p (List.mem_of_getElem? hp)
    have hlt : d < a.tmps.size := by rw [h.size]; exact hpok.1 d hdp
    obtain ⟨y1, y2⟩ := yielded_rel hT hp hdp hlt
    rcases hh with ⟨b, hb, h1, h2⟩ | ⟨h1, h2, h3, h4⟩
    · have hy := y1 b hb
      by_cases e : b = want
      · rw [if_pos (by simp [Region.wanted, hg, hy, e])]
        exact .inl (go (h1 e))
      · rw [if_neg (by simp [Region.wanted, hg, hy, e])]
        exact skip (h2 e)
    · rw [if_neg (by simp [Region.wanted, hg, y2 h1 h2 h3])]
      exact skip h4

omit hc in
/-- A store to what is there, in the first part. -/
theorem draw_stepS (hm : MaskOk ops.toList mk) (hd : dstsOk ops.toList = true) (hbig : 0 < big) (gok : GOk mk big M0 φ0 w0 R G) {listed : Nat → Prop} {φ : Phi} {w : World} {a : Act} (h : DInv N n ds ops mk big M0 st0 φ0 w0 m R G listed φ w a)
    {j : Nat} (hj : j < m) {o : Oper} (ho : ops[j]? = some o) (hnl : ¬ listed j) (hanc : ∀ i, Nat.testBit (mk j) i = true → listed i)
    (hf : FltAt tt M0 (memA M0 big R (mk j) j) G j (stA R st0 (mk j) (effL mk j ops.toList 0) 0) o) (hRj : R j = (.v undef, memA M0 big R (mk j) j)) {QX : Exit → Act → World → Prop} {K : Act → World → Prop}
    (hK : ∀ φn w' a', DInv N n ds ops mk big M0 st0 φ0 w0 m R G (fun k => listed k ∨ k = j) φn w' a' → K a' w') : wpOp P ops QX j K a w := by
  have hT := h.tmpsA hm hd hanc hnl
  obtain ⟨t, x, y, id, r, c, e, rs, cells, o1, o2, o3, hb, hx, hg, hG, k1, k3, k4, k5, k6, k7⟩ := hf.ex
  have hob := (h.repA hm hbig hanc).objs id
  rw [hg] at hob
  obtain ⟨p, q1, ⟨q4, q5⟩, q6, r3, r4, r5⟩ := hob
  have hpφ : φ id = some (some p) := (restr_some q1).2
  have hv := evA_rel hT x
  rw [hx] at hv
  generalize hgv : a.eval x = xv at hv
  have hy := evA_rel hT y
  cases hv with
  | ptr _ _ _ p' hp' hps' =>
    have hpp : p' = p := by
      rw [q1] at hp'; cases hp'; rfl
    subst hpp
    have hat : p'.at r c = ⟨p'.b, r * rs + c, none⟩ := by simp [Pl.at, q4, q6, q5]
    have hsz1 : ∀ z, leafA z = true → z ≠ .top := by rintro z hz rfl; cases hz
    have hrel : AVsRel (restr φ (domA mk M0 big j)) (evA (stA R st0 (mk j) (effL mk j ops.toList 0) 0) y).cells (a.eval y).cells.toList := by
      refine hy.cells (fun e => ?_) (fun v e => ?_)
      · rw [e] at k3; cases k3
      · rw [e] at k3
        obtain ⟨h1, _⟩ := bif2_tt (show bif2 (leafA (.v v)) (allLeaf []) false = true from k3)
        exact h1
    have hlen : (a.eval y).cells.toList.length = (tt t).size := by rw [← hrel.length, k4]
    obtain ⟨w', s1, s2, s3, s4, s5, s6, s7, s8, s9, s10⟩ := storeCells_world (P := P) (a.eval y).cells.toList (r * rs + c) 0 r3 (leaves_one _ k3 hrel) (by rw [hlen]; omega)
    simp only [Nat.add_zero] at s5 s6
    have hn := h.afterS hm hbig gok hj ho o3 hnl hanc hRj hG hpφ s4 s3 (fun i z hz => ?_) (fun i hi => s6 i (by rw [hlen, ← k4]; exact hi)) s7 s8 s9 s10
    · unfold wpOp
      simp only [ho]
      rw [if_pos (by simp [Region.wanted, o2])]
      refine .inl ?_
      have hsz : (a.eval y).cells.size = (tt t).size := by rw [← hlen, Array.length_toList]
      have hrun : (execOp a.eval o).run P w = .ok .skip w' ∨ (execOp a.eval o).run P w = .ok (.value undef) w' := by
        unfold execOp
        rw [o1]
        rw [← hat] at s1
        simp [Instr.storeAt, Instr.sureAddr, hgv, storeVar, run_sizeOf' (tok t hb), hsz, s1]
      unfold Oper.wp
      rcases hrun with hrun | hrun
      · rw [hrun]; exact hK φ w' _ hn
      · rw [hrun]; exact hK φ w' _ hn
    · obtain ⟨z', hz', hzr⟩ := hrel.get i z hz
      exact ⟨z', s5 i z' hz', hzr⟩

omit hc in
/-- What is told by slots alone yields the same in any world. -/
theorem pure_yields {N' : NB} {φ : Phi} {A : Mem} {w : World} {st : Tmps} {a : Act} (hr : Rep N' φ A w) (hT : TmpsRel φ st a.tmps) {o : Oper} {r : AV × Mem} (hw : Region.wanted o (yielded ops a.tmps) = true) (hp : pureV st o.op = true)
    (hop : (evOp ⟨P, tt, callF, A, st⟩ o.op).holds (· = r) (fun _ _ => False)) : ∃ v, Yields P ops o v a ∧ Good N' φ A w (· = r) v w := by
  have mkY : ∀ v, (∀ w, (execOp a.eval o).run P w = .ok (.value v) w) → Yields P ops o v a := fun v h => .inl ⟨hw, h⟩
  cases ho : o.op with
  | move x =>
    rw [ho] at hop
    exact ⟨a.eval x, mkY _ (fun w => by unfold execOp; rw [ho]; rfl), .here hr hop (evA_rel hT x)⟩
  | assign x =>
    rw [ho] at hop
    exact ⟨a.eval x, mkY _ (fun w => by unfold execOp; rw [ho]; rfl), .here hr hop (evA_rel hT x)⟩
  | pick c x y =>
    rw [ho] at hop
    obtain ⟨t, ht, h⟩ := onB_ok (show (onB (evA st c) fun t => .br t (.ret (evA st x, A)) (.ret (evA st y, A))).holds (· = r) (fun _ _ => False) from hop)
    have hc := evA_rel hT c
    rw [ht] at hc
    generalize hgc : a.eval c = cv at hc
    cases hc
    cases t with
    | true => exact ⟨a.eval x, mkY _ (fun w => by unfold execOp; rw [ho]; simp [hgc]; rfl), .here hr (h.1 rfl) (evA_rel hT x)⟩
    | false => exact ⟨a.eval y, mkY _ (fun w => by unfold execOp; rw [ho]; simp [hgc]; rfl), .here hr (h.2 rfl) (evA_rel hT y)⟩
  | extract t ix =>
    rw [ho] at hop
    obtain ⟨l, hl, h⟩ := onTup_ok (show (onTup (evA st t) fun l => (sel l ix).bind fun v => .ret (v, A)).holds (· = r) (fun _ _ => False) from hop)
    rw [T.holds_bind] at h
    obtain ⟨v, hv, hq⟩ := sel_ok h
    have ht := evA_rel hT t
    rw [hl] at ht
    generalize hgv : a.eval t = tv at ht
    cases ht with
    | tup _ vs hrel =>
      obtain ⟨z, hz, hzr⟩ := hrel.get _ _ hv
      have hz : vs[ix]? = some z := by simpa using hz
      exact ⟨z, mkY _ (fun w => by unfold execOp; rw [ho]; simp [hgv, Instr.extract, hz]), .here hr hq hzr⟩
  | binOp op t x y yt =>
    rw [ho] at hop hp
    obtain ⟨hb, h⟩ := onK_both (show (onK (tt t).u (evBin P tt A op t x y (evA st x) (evA st y)) (evBin P tt A op t x y (evA st x) (evA st y))).holds (· = r) (fun _ _ => False) from hop)
    obtain ⟨h1, h2⟩ := Bool.and_eq_true_iff.1 (show (isIA (evA st x) && isIA (evA st y)) = true from hp)
    have hu := evA_rel hT x
    have hv := evA_rel hT y
    generalize hgx : evA st x = xa at *
    generalize hgy : evA st y = ya at *
    have plain : (retM A (binA P (tt t).kind op t x y xa ya)).holds (· = r) (fun _ _ => False) := by
      cases xa with
      | i k n => cases ya <;> first | exact h | cases h2
      | b n => cases ya <;> first | exact h | cases h2
      | s n => cases ya <;> first | exact h | cases h2
      | _ => cases h1
    have hany : ∀ w, Val P φ w (fun v => (v, A) = r) (do eqGuard op t x y (a.eval x) (a.eval y); binOp op t (a.eval x) (a.eval y)) := fun w => binA_ok tok hb hu hv (retM_ok plain)
    obtain ⟨z, xr, hrun, hxr, hz⟩ := hany w
    have hxi : isIA xr = true := by
      have hk : (binA P (tt t).kind op t x y xa ya).holds (fun v => isIA v = true) (fun _ _ => False) := by
        cases xa with
        | i k n =>
          cases ya with
          | i k' n' =>
            have hh : (bif2 (isSh op) (binI op k n n') (.br (decide (k = k')) (binI op k n n') .fail) : T AV).holds (fun v => (v, A) = r) (fun _ _ => False) := retM_ok plain
            show (bif2 (isSh op) (binI op k n n') (.br (decide (k = k')) (binI op k n n') .fail) : T AV).holds (fun v => isIA v = true) (fun _ _ => False)
            have bi : (binI op k n n').holds (fun v => (v, A) = r) (fun _ _ => False) → (binI op k n n').holds (fun v => isIA v = true) (fun _ _ => False) := by
              intro hq
              cases op with
              | quo => exact ⟨fun e => (hq.1 e).elim, fun _ => rfl⟩
              | rem => exact ⟨fun e => (hq.1 e).elim, fun _ => rfl⟩
              | shl => exact ⟨fun e => (hq.1 e).elim, fun _ => rfl⟩
              | shr => exact ⟨fun e => (hq.1 e).elim, fun _ => rfl⟩
              | _ => exact rfl
            rw [bif2_eq] at hh ⊢
            split
            · rename_i e; rw [if_pos e] at hh; exact bi hh
            · rename_i e; rw [if_neg e] at hh
              exact ⟨fun e => bi (hh.1 e), fun e => hh.2 e⟩
          | b n' => exact (retM_ok plain).elim
          | s n' => exact (retM_ok plain).elim
          | _ => cases h2
        | b n =>
          cases ya with
          | b n' =>
            have hh : (binB (tt t).kind op n n').holds (fun v => (v, A) = r) (fun _ _ => False) := retM_ok plain
            show (binB (tt t).kind op n n').holds (fun v => isIA v = true) (fun _ _ => False)
            cases hc : (tt t).kind with
            | bool =>
              rw [hc] at hh
              cases op with
              | eql => exact rfl
              | neq => exact rfl
              | _ => exact hh.elim
            | _ => rw [hc] at hh; exact hh.elim
          | i k' n' => exact (retM_ok plain).elim
          | s n' => exact (retM_ok plain).elim
          | _ => cases h2
        | s n =>
          cases ya with
          | s n' =>
            have hh : (binS op n n').holds (fun v => (v, A) = r) (fun _ _ => False) := retM_ok plain
            show (binS op n n').holds (fun v => isIA v = true) (fun _ _ => False)
            cases op with
            | add => exact ⟨fun _ => rfl, fun e => (hh.2 e).elim⟩
            | eql => exact rfl
            | neq => exact rfl
            | lss => exact rfl
            | leq => exact rfl
            | gtr => exact rfl
            | geq => exact rfl
            | _ => exact hh.elim
          | i k' n' => exact (retM_ok plain).elim
          | b n' => exact (retM_ok plain).elim
          | _ => cases h2
        | _ => cases h1
      obtain ⟨a1, h3, h4⟩ := T.leaf hk
      obtain ⟨a2, h5, h6⟩ := T.leaf (retM_ok plain)
      have e1 : a1 = xr := by
        have e2 : a1 = a2 := T.leaf_eq h4 h6
        have e3 : a2 = xr := by rw [← hxr] at h5; exact (Prod.mk.inj h5).1
        rw [e2, e3]
      rw [← e1]; exact h3
    refine ⟨z, mkY _ (fun w' => ?_), .here hr hxr hz⟩
    obtain ⟨z', xr', hrun', hxr', hz'⟩ := hany w'
    have e : xr' = xr := (Prod.mk.inj (hxr'.trans hxr.symm)).1
    subst e
    have ez : z' = z := by cases xr' <;> first | (cases hz; cases hz'; rfl) | cases hxi
    subst ez
    unfold execOp; rw [ho]
    simp only [Sem.run_bind] at hrun' ⊢
    revert hrun'
    cases (eqGuard op t x y (a.eval x) (a.eval y)).run P w' with
    | ok u w1 =>
      simp only [Result.andThen_ok]
      intro hrun'
      simp [hrun']
    | halt e w1 => intro hrun'; cases hrun'
  | _ => rw [ho] at hp; cases hp

def PureAt (ops : Array Oper) (mk : Nat → Nat) (st0 : Tmps) (R : DR) (G : GS) (u : Nat) : Prop := ∃ o, ops[u]? = some o ∧ G u = none ∧ pv0 ops.toList u o = true ∧ PW ops.toList (stA R st0 (mk u) (effL mk u ops.toList 0) 0) o
omit tok hc in
theorem pv0_spec {u : Nat} {o : Oper} (h : pv0 ops.toList u o = true) : ∀ j oj, ops[j]? = some oj → u < j → (∀ e ∈ oj.after, Region.binds .any e = true → e.on ≠ u) → o.apart ops oj = true := by
  intro j oj hj hlt hno
  obtain ⟨_, h⟩ := Bool.and_eq_true_iff.1 (show (pureK o.op && freeU ops.toList u o) = true from h)
  unfold freeU at h
  rw [List.all_eq_true] at h
  have hm : oj ∈ ops.toList.drop (u + 1) := by
    have h1 : (ops.toList.drop (u + 1))[j - (u + 1)]? = some oj := by rw [List.getElem?_drop, show u + 1 + (j - (u + 1)) = j by omega]; simpa using hj
    exact List.mem_of_getElem? h1
  rcases Bool.or_eq_true_iff.1 (h oj hm) with h1 | h1
  · rw [List.any_eq_true] at h1
    obtain ⟨e, he, hb⟩ := h1
    obtain ⟨hb1, hb2⟩ := Bool.and_eq_true_iff.1 hb
    exact absurd (Nat.eq_of_beq_eq_true hb2) (hno e (by simpa using he) hb1)
  · simpa using h1
omit hc in
/-- The same, carried out or not. -/
theorem pw_yields {N' : NB} {φ : Phi} {A : Mem} {w : World} {st : Tmps} {a : Act} (hr : Rep N' φ A w) (hT : TmpsRel φ st a.tmps) (hsz : ∀ p ∈ ops.toList, ∀ d, p.dst = some d → d < a.tmps.size) {o : Oper} {r : AV × Mem} (hp : PW ops.toList st o)
    (hop : (drawOp P tt callF ops.toList A st o).holds (· = r) (fun _ _ => False)) : ∃ v, Yields P ops o v a ∧ Good N' φ A w (· = r) v w := by
  rcases drawOp_ok hop with ⟨hg, hh⟩ | ⟨g, want, p, d, hg, hpp, hdp, hh⟩
  · exact pure_yields tok hr hT (by simp [Region.wanted, hg]) (hp.1 hg) hh
  · obtain ⟨y1, y2⟩ := yielded_rel hT (by simpa using hpp) hdp (hsz p (List.mem_of_getElem? hpp) d hdp)
    have skip : Region.wanted o (yielded ops a.tmps) = false → (AV.v undef, A) = r → ∃ v, Yields P ops o v a ∧ Good N' φ A w (· = r) v w := fun h e => ⟨undef, .inr ⟨h, rfl⟩, .here hr e (.v _)⟩
    rcases hh with ⟨b, hb, h1, h2⟩ | ⟨h1, h2, h3, h4⟩
    · have hy := y1 b hb
      by_cases e : b = want
      · exact pure_yields tok hr hT (by simp [Region.wanted, hg, hy, e]) (hp.2 _ hg p d hpp hdp (by rw [hb, e])) (h1 e)
      · exact skip (by simp [Region.wanted, hg, hy, e]) (h2 e)
    · exact skip (by simp [Region.wanted, hg, y2 h1 h2 h3]) h4
theorem draw_any (hall : ∀ o ∈ ops.toList, OpOk P n o) (hm : MaskOk ops.toList mk) (hd : dstsOk ops.toList = true) (hbig : 0 < big) (hms : m ≤ ops.size) (hsp : ∀ i, m ≤ i → i < ops.size → ∀ u, u < i → Nat.testBit (mk i) u = true ∨ (u < m ∧ PureAt ops mk st0 R G u))
    (hsel : Region.noSelect ops = true) {QX : Exit → Act → World → Prop} (hQ : ∀ (d : Option Tmp) v c a w, QX (.panic c) (a.put d v) w → QX (.panic c) a w)
    (gok : GOk mk big M0 φ0 w0 R G) {nt : Option Nat → List (Nat × Nat)}
    (hR : ∀ j o, j < m → ops[j]? = some o → (G j = none ∧ (∃ x, (drawOp P tt callF ops.toList (memA M0 big R (mk j) j) (stA R st0 (mk j) (effL mk j ops.toList 0) 0) o).holds (· = x) (fun _ _ => False) ∧ R j = topNew (nt o.dst) x) ∧ (R j).2.next ≤ M0.next + (j + 1) * big) ∨
      (FltAt tt M0 (memA M0 big R (mk j) j) G j (stA R st0 (mk j) (effL mk j ops.toList 0) 0) o ∧ R j = (.v undef, memA M0 big R (mk j) j)))
    {Q : Tmps × Mem → Prop} {Qp : AV → Mem → Prop}
    (hend : ∀ φ a w, StOk N n ds φ (memF M0 big m R G) w (stA R st0 (Nat.sub (Nat.pow 2 m) 1) (ops.toList.take m) 0) a →
      Ext φ0 M0 w0 φ (memF M0 big m R G) w → (∀ t, (∀ k o, k < m → ops[k]? = some o → o.dst ≠ some t) → AVRel φ0 (st0 t) (a.tmps.getD t undef)) →
      ∃ φ' st' M', (evOps P tt callF ops.toList (ops.toList.drop m) st' M').holds Q Qp ∧ StOk N n ds φ' M' w st' a ∧ Ext φ0 M0 w0 φ' M' w)
    (hq : ∀ φ' M' w' st' a', Q (st', M') → StOk N n ds φ' M' w' st' a' → Ext φ0 M0 w0 φ' M' w' → QX .normal a' w') (hp : PanOk N ds φ0 M0 w0 Qp QX) :
    ∀ (fuel : Nat) (listed : Array Bool) (a : Act) (w : World), listed.size = ops.size → unl ops.size listed = fuel →
      ((∃ φ, DInv N n ds ops mk big M0 st0 φ0 w0 m R G (fun k => listed.getD k false = true) φ w a) ∨
       (∃ i st M φ, m ≤ i ∧ i ≤ ops.size ∧ (∀ k, listed.getD k false = true ↔ k < i) ∧ (evOps P tt callF ops.toList (ops.toList.drop i) st M).holds Q Qp ∧ StOk N n ds φ M w st a ∧ Ext φ0 M0 w0 φ M w)) →
      wpAny P .any ops QX fuel listed a w := by
  have hbit : ∀ i k, Nat.testBit (2 ^ i - 1) k = true ↔ k < i := fun i k => by rw [Nat.testBit_two_pow_sub_one]; simp
  intro fuel
  induction fuel with
  | zero =>
    intro listed a w hsz hu hinv
    have hallL := unl_zero hu
    have hr : Region.ready .any ops listed = [] := by
      rw [List.eq_nil_iff_forall_not_mem]
      intro i hi
      rw [mem_ready] at hi
      obtain ⟨h1, o, ho, _⟩ := hi
      have hlt : i < ops.size := (Array.getElem?_eq_some_iff.1 ho).1
      rw [hallL i hlt] at h1; cases h1
    refine ⟨hr, ?_⟩
    have hinv2 : ∃ st M φ, (evOps P tt callF ops.toList [] st M).holds Q Qp ∧ StOk N n ds φ M w st a ∧ Ext φ0 M0 w0 φ M w := by
      rcases hinv with ⟨φ, h⟩ | ⟨i, st, M, φ, h1, h2, h3, h4, h5, h6⟩
      · have hm2 : m = ops.size := by
          rcases Nat.lt_or_ge m ops.size with h1 | h1
          · have := h.im m (by rw [← getD_tf hsz h1]; exact hallL m h1); omega
          · omega
        obtain ⟨h1, h2⟩ := h.finish hbig gok (fun k hk => by rw [← getD_tf hsz (by omega)]; exact hallL k (by omega))
        obtain ⟨φ', st', M', e1, e2, e3⟩ := hend φ a w h1 h2 (fun t ht => h.i4 t fun k o hk ho => ht k o (h.im k hk) ho)
        have hdrop : ops.toList.drop m = [] := by rw [hm2]; simp
        rw [hdrop] at e1
        exact ⟨st', M', φ', e1, e2, e3⟩
      · have hi : i = ops.size := by
          rcases Nat.lt_or_ge i ops.size with h7 | h7
          · have := (h3 i).1 (by rw [← getD_tf hsz h7]; exact hallL i h7); omega
          · omega
        refine ⟨st, M, φ, ?_, h5, h6⟩
        have hdrop : ops.toList.drop i = [] := by rw [hi]; simp
        rw [hdrop] at h4; exact h4
    obtain ⟨st, M, φ, h1, h2, h3⟩ := hinv2
    exact hq φ M w st a h1 h2 h3
  | succ fuel ih =>
    intro listed a w hsz hu hinv
    -- if the first part is done, go on with the second
    have hinv' : ((∃ φ, DInv N n ds ops mk big M0 st0 φ0 w0 m R G (fun k => listed.getD k false = true) φ w a) ∧ ∃ k, k < m ∧ listed.getD k false = false) ∨
       (∃ i st M φ, m ≤ i ∧ i ≤ ops.size ∧ (∀ k, listed.getD k false = true ↔ k < i) ∧ (evOps P tt callF ops.toList (ops.toList.drop i) st M).holds Q Qp ∧ StOk N n ds φ M w st a ∧ Ext φ0 M0 w0 φ M w) := by
      rcases hinv with ⟨φ, h⟩ | h
      · by_cases hex : ∃ k, k < m ∧ listed.getD k false = false
        · exact .inl ⟨⟨φ, h⟩, hex⟩
        · right
          have hl : ∀ k, k < m → listed.getD k false = true := fun k hk => by
            cases hb : listed.getD k false with
            | true => rfl
            | false => exact (hex ⟨k, hk, hb⟩).elim
          obtain ⟨h1, h2⟩ := h.finish hbig gok hl
          obtain ⟨φ', st', M', e1, e2, e3⟩ := hend φ a w h1 h2 (fun t ht => h.i4 t fun k o hk ho => ht k o (h.im k hk) ho)
          exact ⟨m, st', M', φ', Nat.le_refl _, hms, fun k => ⟨fun hk => h.im k hk, fun hk => hl k hk⟩, e1, e2, e3⟩
      · exact .inr h
    clear hinv
    have hcl : ∀ i, i ∈ Region.ready .any ops listed → (∀ k, listed.getD k false = true → ∀ i, Nat.testBit (mk k) i = true → listed.getD i false = true) → ∀ k, Nat.testBit (mk i) k = true → listed.getD k false = true := by
      intro i hi hclosed k hk
      rw [mem_ready] at hi
      obtain ⟨_, o, ho, he⟩ := hi
      obtain ⟨e, hee, hb, hh⟩ := hm.via i o (by simpa using ho) k hk
      rcases hh with hh | rfl
      · exact hclosed _ (he e hee hb) k hh
      · exact he e hee hb
    have hfirst : ∀ i, i < ops.size → listed.getD i false = false → (∀ k, k < i → listed.getD k false = true) → i ∈ Region.ready .any ops listed := by
      intro i hi hni hlt
      rw [mem_ready]
      have ho : ops[i]? = some ops[i] := Array.getElem?_eq_getElem hi
      refine ⟨by rw [getD_tf hsz hi]; exact hni, _, ho, fun e he hb => hlt e.on ?_⟩
      exact hm.lt i e.on (hm.edge i _ (by simpa using ho) e he hb)
    have hleast : ∀ k, listed.getD k false = false → ∃ i, i ≤ k ∧ listed.getD i false = false ∧ ∀ q, q < i → listed.getD q false = true := by
      intro k
      induction k using Nat.strongRecOn with
      | _ k ihk =>
        intro hk
        by_cases hex : ∃ q, q < k ∧ listed.getD q false = false
        · obtain ⟨q, hq1, hq2⟩ := hex
          obtain ⟨i, h1, h2, h3⟩ := ihk q hq1 hq2
          exact ⟨i, by omega, h2, h3⟩
        · refine ⟨k, Nat.le_refl _, hk, fun q hq => ?_⟩
          cases hb : listed.getD q false with
          | true => rfl
          | false => exact (hex ⟨q, hq, hb⟩).elim
    have hset : ∀ i, i < ops.size → ∀ k, (listed.setIfInBounds i true).getD k false = true ↔ listed.getD k false = true ∨ k = i := by
      intro i hi k
      by_cases e : k = i
      · subst e; simp [hsz, hi]
      · rw [getD_set_ne false (Ne.symm e)]; simp [e]
    rcases hinv' with ⟨⟨φ, h⟩, k0, hk0, hk1⟩ | ⟨i0, st, M, φ, hmi, his, hlist, hev, hst, hext⟩
    · obtain ⟨i1, hi1a, hi1b, hi1c⟩ := hleast k0 hk1
      have hi1r := hfirst i1 (by omega) hi1b hi1c
      by_cases hpu : PureAt ops mk st0 R G i1
      · obtain ⟨o, ho, hGu, hp1, hp2⟩ := hpu
        have hap := pv0_spec hp1
        have hanc := hcl i1 hi1r h.cl
        obtain ⟨_, ⟨xr, hop, hRx⟩, hnext⟩ | ⟨hf, _⟩ := hR i1 o (by omega) ho
        case inr => obtain ⟨t, x, y, id, r, c, e, rs, cells, _, _, _, _, _, _, hG, _⟩ := hf.ex; rw [hGu] at hG; cases hG
        obtain ⟨v, hy, hgood⟩ := pw_yields tok (ops := ops) (h.repA hm hbig hanc) (h.tmpsA hm hd hanc (by rw [hi1b]; simp)) (fun p hp d hd' => by rw [h.size]; exact (hall p hp).1 d hd') hp2 hop
        have hlt : i1 < ops.size := by omega
        have hoo := hall o (by rw [Array.mem_toList_iff]; exact Array.mem_of_getElem? ho)
        obtain ⟨φn, hn⟩ := h.after hm hd hbig (by omega) ho hoo.1 (by rw [hi1b]; simp) hanc hnext gok hGu (by rw [hRx]; exact hgood.topN _)
        refine wpAny_first ho (Region.noSelect_spec hsel) (fun c a w hx => hQ _ _ c a w hx) fuel listed a w ?_ hi1r hy ?_
        · intro j oj hj hji hun hno
          refine hap j oj hj ?_ hno
          rcases Nat.lt_or_ge i1 j with h1 | h1
          · exact h1
          · have h2 := hi1c j (by omega)
            rw [← getD_tf hsz (by omega), hun] at h2; cases h2
        · refine ih _ _ w (by simpa using hsz) ?_ (.inl ⟨φn, ?_⟩)
          · have := unl_set hlt hsz (by rw [getD_tf hsz hlt]; exact hi1b); omega
          · have e : (fun k => (listed.setIfInBounds i1 true).getD k false = true) = fun k => listed.getD k false = true ∨ k = i1 := by
              funext k; exact propext (hset i1 hlt k)
            rw [e]; exact hn
      refine ⟨fun hr => ?_, fun i hi => ?_⟩
      · rw [hr] at hi1r; cases hi1r
      · have hanc := hcl i hi h.cl
        have hi' := hi
        rw [mem_ready] at hi'
        obtain ⟨hni, o, ho, _⟩ := hi'
        have hlt : i < ops.size := (Array.getElem?_eq_some_iff.1 ho).1
        rw [getD_tf hsz hlt] at hni
        have him : i < m := by
          rcases Nat.lt_or_ge i m with h1 | h1
          · exact h1
          · rcases hsp i h1 hlt i1 (by omega) with h2 | ⟨_, h2⟩
            · have := hanc i1 h2
              rw [hi1b] at this; cases this
            · exact (hpu h2).elim
        have stp : ∀ K : Act → World → Prop, (∀ φn w' a', DInv N n ds ops mk big M0 st0 φ0 w0 m R G (fun k => listed.getD k false = true ∨ k = i) φn w' a' → K a' w') → wpOp P ops QX i K a w := by
          intro K hK
          rcases hR i o him ho with ⟨hGi, ⟨xr, hop, hRx⟩, hnext⟩ | ⟨hf, hRi⟩
          · exact draw_step tok hc hall hm hd hbig h him ho (by rw [hni]; simp) hanc hop hRx hnext gok hGi hK
          · exact draw_stepS tok hm hd hbig gok h him ho (by rw [hni]; simp) hanc hf hRi hK
        refine stp _ ?_
        intro φn w' a' hn
        refine ih _ a' w' (by simpa using hsz) ?_ (.inl ⟨φn, ?_⟩)
        · have := unl_set hlt hsz (by rw [getD_tf hsz hlt]; exact hni); omega
        · have e : (fun k => (listed.setIfInBounds i true).getD k false = true) = fun k => listed.getD k false = true ∨ k = i := by
            funext k; exact propext (hset i hlt k)
          rw [e]; exact hn
    · refine ⟨fun hr => ?_, fun i hi => ?_⟩
      · have hi0 : i0 = ops.size := by
          rcases Nat.lt_or_ge i0 ops.size with h7 | h7
          · have hni : listed.getD i0 false = false := by
              cases hb : listed.getD i0 false with
              | false => rfl
              | true => have := (hlist i0).1 hb; omega
            have := hfirst i0 h7 hni (fun k hk => (hlist k).2 hk)
            rw [hr] at this; cases this
          · omega
        have hdrop : ops.toList.drop i0 = [] := by rw [hi0]; simp
        rw [hdrop] at hev
        exact hq φ M w st a hev hst hext
      · have hanc := hcl i hi (fun k hk q hq => (hlist q).2 (by have h1 := (hlist k).1 hk; have h2 := hm.lt _ _ hq; omega))
        have hi' := hi
        rw [mem_ready] at hi'
        obtain ⟨hni, o, ho, _⟩ := hi'
        have hlt : i < ops.size := (Array.getElem?_eq_some_iff.1 ho).1
        rw [getD_tf hsz hlt] at hni
        have hii : i = i0 := by
          have h1 : ¬ i < i0 := fun h => by rw [(hlist i).2 h] at hni; cases hni
          rcases Nat.lt_or_ge i0 i with h2 | h2
          · rcases hsp i (by omega) hlt i0 h2 with h4 | ⟨h4, _⟩
            · have := (hlist i0).1 (hanc i0 h4); omega
            · omega
          · omega
        subst hii
        have hcons : ops.toList.drop i = o :: ops.toList.drop (i + 1) := by
          have hl : i < ops.toList.length := by simpa using hlt
          rw [List.drop_eq_getElem_cons hl]
          congr 1
          have : ops.toList[i]? = some o := by simpa using ho
          rw [List.getElem?_eq_getElem hl] at this
          exact Option.some.inj this
        rw [hcons] at hev
        have hmem : o ∈ ops.toList := by rw [Array.mem_toList_iff]; exact Array.mem_of_getElem? ho
        have := evOps_step tok hc hall hev (hall o hmem) hst (K := wpAny P .any ops QX fuel (listed.setIfInBounds i true)) (QX := QX) (fun φ' M' w' st' a' h1 h2 h3 => by
          refine ih _ a' w' (by simpa using hsz) ?_ (.inr ⟨i + 1, st', M', φ', by omega, by omega, fun k => ?_, h1, h2, hext.trans h3⟩)
          · have := unl_set hlt hsz (by rw [getD_tf hsz hlt]; exact hni); omega
          · rw [hset i hlt k, hlist k]; omega) (hp.step hext)
        unfold wpOp
        simp only [ho]
        exact this

end
end Go.Eng

set_option autoImplicit false
namespace Go.Eng
open Go Go.RowKit

/-! ## Forcing changes nothing -/
theorem forceI_eq {R : Type} (a : IntKind) (n : Int) (k : AV → R) : forceI a n k = k (.i a n) := by
  cases n with
  | ofNat n => show forceN n (fun m => k (.i a (.ofNat m))) = _; rw [forceN_eq]
  | negSucc n => show forceN n (fun m => k (.i a (.negSucc m))) = _; rw [forceN_eq]
theorem forceBL_eq {R : Type} (l : List UInt8) : ∀ (k : List UInt8 → R), forceBL l k = k l := by
  induction l with
  | nil => intro k; rfl
  | cons x l ih =>
    intro k
    show (forceN x.toNat fun n => forceBL l fun l => k (UInt8.ofNat n :: l)) = _
    rw [forceN_eq, ih]
    congr 2
    exact UInt8.ofNat_toNat
theorem forceS_eq {R : Type} (s : ByteArray) (k : ByteArray → R) : forceS s k = k s := by
  unfold forceS
  rw [forceBL_eq]
theorem forceA0_eq {R : Type} (x : AV) (k : AV → R) : forceA0 x k = k x := by
  cases x with
  | i a n => exact forceI_eq a n k
  | b b => cases b <;> rfl
  | ptr a b c => show forceN a (fun a => forceN b fun b => forceN c fun c => k (.ptr a b c)) = _; simp only [forceN_eq]
  | sl a b c d => show forceN a (fun a => forceN b fun b => k (.sl a b c d)) = _; simp only [forceN_eq]
  | s s => exact forceS_eq s (fun s => k (.s s))
  | mp a => show forceN a (fun a => k (.mp a)) = _; rw [forceN_eq]
  | _ => rfl
theorem forceL0_eq {R : Type} (l : List AV) (k : List AV → R) : forceL0 l k = k l := by
  induction l generalizing k with
  | nil => rfl
  | cons x l ih => show forceA0 x (fun x => forceL0 l fun l => k (x :: l)) = _; rw [forceA0_eq, ih]
theorem forceA_eq {R : Type} (x : AV) (k : AV → R) : forceA x k = k x := by
  cases x with
  | fn f l => exact forceL0_eq l (fun l => k (.fn f l))
  | agg l => exact forceL0_eq l (fun l => k (.agg l))
  | tup l => exact forceL0_eq l (fun l => k (.tup l))
  | ifc t x => exact forceA0_eq x (fun x => k (.ifc t x))
  | i a n => exact forceA0_eq (.i a n) k
  | b b => exact forceA0_eq (.b b) k
  | s s => exact forceA0_eq (.s s) k
  | ptr a b c => exact forceA0_eq (.ptr a b c) k
  | sl a b c d => exact forceA0_eq (.sl a b c d) k
  | mp a => exact forceA0_eq (.mp a) k
  | _ => rfl
theorem forceL_eq {R : Type} (l : List AV) (k : List AV → R) : forceL l k = k l := by
  induction l generalizing k with
  | nil => rfl
  | cons x l ih => show forceA x (fun x => forceL l fun l => k (x :: l)) = _; rw [forceA_eq, ih]
theorem forceNs_eq {R : Type} (l : List Nat) (k : List Nat → R) : forceNs l k = k l := by
  induction l generalizing k with
  | nil => rfl
  | cons x l ih => show forceN x (fun x => forceNs l fun l => k (x :: l)) = _; rw [forceN_eq, ih]
theorem forceO_eq {R : Type} (o : AObj) (k : AObj → R) : forceO o k = k o := by
  cases o with
  | own e rs l => exact forceL_eq l (fun l => k (.own e rs l))
  | _ => rfl
theorem forceOs_eq {R : Type} (f : Nat → AObj) (l : List Nat) (k : List AObj → R) : forceOs f l k = k (l.map f) := by
  induction l generalizing k with
  | nil => rfl
  | cons x l ih => show forceO (f x) (fun x => forceOs f l fun l => k (x :: l)) = _; rw [forceO_eq, ih]; rfl
theorem mapL_eq {α β : Type} (f : α → β) (l : List α) : mapL f l = l.map f := by
  induction l with
  | nil => rfl
  | cons x l ih => show f x :: mapL f l = _; rw [ih]; rfl
theorem keepF_eq {R : Type} (keep : List Nat) (st : Tmps) (k : Tmps → R) : keepF keep st k = k (keepOnly keep st) := by
  induction keep generalizing k with
  | nil => rfl
  | cons t l ih =>
    show forceA (st t) (fun v => keepF l st fun acc => k (putA (some t) acc v)) = _
    rw [forceA_eq, ih]; rfl
theorem keepOnly_rel {φ : Phi} (keep : List Nat) {st : Tmps} {tmps : Array Value} (h : TmpsRel φ st tmps) : TmpsRel φ (keepOnly keep st) tmps := by
  induction keep with
  | nil => intro t; exact .top _
  | cons t l ih =>
    intro j
    show AVRel φ (putA (some t) (keepOnly l st) (st t) j) _
    rw [putA_eq]
    simp only
    split
    · rename_i e; subst e; exact h j
    · exact ih j

/-! ## New numbers -/
/-- New numbers for what has a place. -/
def RenOk (φ φ' : Phi) (ρ : Rho) : Prop := ∀ id j, ρ id = some j → φ' j = φ id
theorem ren0_rel {φ φ' : Phi} {ρ : Rho} (hρ : RenOk φ φ' ρ) {x : AV} {v : Value} (h : AVRel φ x v) : AVRel φ' (ren0 ρ x) v := by
  cases h with
  | i k n => exact .i _ _
  | b x => exact .b _
  | s x => exact .s _
  | v x => exact .v _
  | ptr id r c p hp hps =>
    show AVRel φ' (onId (ρ id) fun j => .ptr j r c) _
    cases e : ρ id with
    | none => exact .top _
    | some j => exact .ptr j r c p ((hρ id j e).trans hp) hps
  | sl id r n cap x cc hp h0 hc hle hk hss =>
    show AVRel φ' (onId (ρ id) fun j => .sl j r n cap) _
    cases e : ρ id with
    | none => exact .top _
    | some j => exact .sl j r n cap x cc ((hρ id j e).trans hp) h0 hc hle hk hss
  | e A cc => exact .e _ _
  | mp id p hp =>
    show AVRel φ' (onId (ρ id) .mp) _
    cases e : ρ id with
    | none => exact .top _
    | some j => exact .mp j p ((hρ id j e).trans hp)
  | fn f l a h =>
    cases l with
    | nil =>
      refine .fn f [] a ?_
      generalize a.toList = m at h ⊢
      cases h; exact .nil
    | cons x l => exact .top _
  | _ => exact .top _
theorem ren0s_rel {φ φ' : Phi} {ρ : Rho} (hρ : RenOk φ φ' ρ) {l : List AV} {m : List Value} (h : AVsRel φ l m) : AVsRel φ' (mapL (ren0 ρ) l) m := by
  induction l generalizing m with
  | nil => cases h; exact .nil
  | cons x l ih => cases h with | cons h t => exact .cons (ren0_rel hρ h) (ih t)
theorem ren1_rel {φ φ' : Phi} {ρ : Rho} (hρ : RenOk φ φ' ρ) {x : AV} {v : Value} (h : AVRel φ x v) : AVRel φ' (ren1 ρ x) v := by
  cases h with
  | fn f l a h => exact .fn f _ a (ren0s_rel hρ h)
  | ifc t x y h => exact .ifc t _ y (ren0_rel hρ h)
  | agg l a h => exact .agg _ a (ren0s_rel hρ h)
  | tup l a h => exact .tup _ a (ren0s_rel hρ h)
  | i k n => exact ren0_rel hρ (.i k n)
  | b x => exact ren0_rel hρ (.b x)
  | s x => exact ren0_rel hρ (.s x)
  | v x => exact ren0_rel hρ (.v _)
  | ptr id r c p hp hps => exact ren0_rel hρ (.ptr id r c p hp hps)
  | sl id r n cap x cc hp h0 hc hle hk hss => exact ren0_rel hρ (.sl id r n cap x cc hp h0 hc hle hk hss)
  | e A cc => exact .e _ _
  | mp id p hp => exact ren0_rel hρ (.mp id p hp)
  | top => exact .top _
theorem ren1s_rel {φ φ' : Phi} {ρ : Rho} (hρ : RenOk φ φ' ρ) {l : List AV} {m : List Value} (h : AVsRel φ l m) : AVsRel φ' (mapL (ren1 ρ) l) m := by
  induction l generalizing m with
  | nil => cases h; exact .nil
  | cons x l ih => cases h with | cons h t => exact .cons (ren1_rel hρ h) (ih t)

theorem mapRel {φ φ' : Phi} {f : AV → AV} (hf : ∀ x v, AVRel φ x v → AVRel φ' (f x) v) {l : List AV} {m : List Value} (h : AVsRel φ l m) : AVsRel φ' (mapL f l) m := by
  induction l generalizing m with
  | nil => cases h; exact .nil
  | cons x l ih => cases h with | cons h t => exact .cons (hf _ _ h) (ih t)
theorem isOwn_renO (ρ : Rho) (o : AObj) : isOwn (renO ρ o) = isOwn o := by cases o <;> rfl
theorem ObjRel.ren {N : NB} {φ φ' : Phi} {ρ : Rho} (hρ : RenOk φ φ' ρ) {w : World} {id j : Nat} (hj : φ' j = φ id) {o : AObj} (h : ObjRel N φ w id o) : ObjRel N φ' w j (renO ρ o) := by
  cases o with
  | dead => trivial
  | ro nil n cols =>
    obtain ⟨h1, x, h2, h3⟩ := h
    exact ⟨h1, x, hj.trans h2, h3⟩
  | vec e n cols =>
    obtain ⟨h1, p, h2, h3⟩ := h
    exact ⟨h1, p, hj.trans h2, h3⟩
  | map es cl =>
    obtain ⟨p, h2, h3⟩ := h
    exact ⟨p, hj.trans h2, h3⟩
  | own e rs cells =>
    obtain ⟨p, h1, h2, h3, h4, h5, h6⟩ := h
    refine ⟨p, hj.trans h1, h2, h3, h4, by rw [mapL_eq, List.length_map]; exact h5, fun i a ha => ?_⟩
    rw [mapL_eq, List.getElem?_map, Option.map_eq_some_iff] at ha
    obtain ⟨b, hb, rfl⟩ := ha
    obtain ⟨z, hz, hr⟩ := h6 i b hb
    exact ⟨z, hz, ren1_rel hρ hr⟩

theorem memN_eq (x : Nat) (l : List Nat) : memN x l = true ↔ x ∈ l := by
  induction l with
  | nil => simp [memN]
  | cons y l ih =>
    show bif2 (Nat.beq y x) true (memN x l) = true ↔ _
    rw [bif2_eq]
    split
    · rename_i h; have := Nat.eq_of_beq_eq_true h; subst this; simp
    · rename_i h
      have hne : y ≠ x := fun e => h (by subst e; exact Nat.beq_refl y)
      rw [ih]; simp [Ne.symm hne]
theorem liveOk_ok {base : Nat} (l : List Nat) (h : liveOk base l = true) : (∀ x ∈ l, base ≤ x) ∧ l.Nodup := by
  induction l with
  | nil => simp
  | cons y l ih =>
    have h : bif2 (Nat.ble base y) (bif2 (memN y l) false (liveOk base l)) false = true := h
    rw [bif2_eq] at h
    split at h
    · rename_i hb
      rw [bif2_eq] at h
      split at h
      · cases h
      · rename_i hm
        obtain ⟨h1, h2⟩ := ih h
        refine ⟨fun x hx => ?_, List.nodup_cons.2 ⟨fun hm' => hm ((memN_eq y l).2 hm'), h2⟩⟩
        rcases List.mem_cons.1 hx with rfl | hx
        · exact Nat.le_of_ble_eq_true hb
        · exact h1 x hx
    · cases h
theorem idxOf_ok (l : List Nat) : ∀ {id b j : Nat}, idxOf l id b = some j → b ≤ j ∧ l[j - b]? = some id := by
  induction l with
  | nil => intro id b j h; exact absurd (show (none : Option Nat) = some j from h) (by simp)
  | cons x l ih =>
    intro id b j h
    have h' : bif2 (Nat.beq x id) (some b) (idxOf l id (b + 1)) = some j := h
    clear h
    rw [bif2_eq] at h'
    split at h'
    · rename_i hx
      have := Nat.eq_of_beq_eq_true hx
      subst this
      cases h'
      simp
    · obtain ⟨h1, h2⟩ := ih h'
      refine ⟨by omega, ?_⟩
      rw [show j - b = (j - (b + 1)) + 1 by omega]
      simpa using h2

/-- The old number of a new one. -/
def invOf (base : Nat) (live : List Nat) (j : Nat) : Option Nat := if j < base then some j else live[j - base]?
theorem invOf_inj {base : Nat} {live : List Nat} (h1 : ∀ x ∈ live, base ≤ x) (h2 : live.Nodup) {j j' id : Nat} (h : invOf base live j = some id) (h' : invOf base live j' = some id) : j = j' := by
  unfold invOf at h h'
  split at h <;> split at h'
  · cases h; cases h'; rfl
  · cases h; have := h1 _ (List.mem_of_getElem? h'); omega
  · cases h'; have := h1 _ (List.mem_of_getElem? h); omega
  · have := (List.getElem?_inj (List.getElem?_eq_some_iff.1 h).1 h2).1 (h.trans h'.symm)
    omega
theorem rhoOf_ok {base : Nat} {live : List Nat} {id j : Nat} (h : rhoOf base live id = some j) : invOf base live j = some id := by
  have h' : bif2 (Nat.blt id base) (some id) (idxOf live id base) = some j := h
  clear h
  rw [bif2_eq] at h'
  unfold invOf
  split at h'
  · rename_i hb
    cases h'
    have hb : id < base := Nat.le_of_ble_eq_true hb
    rw [if_pos hb]
  · obtain ⟨h1, h2⟩ := idxOf_ok live h'
    rw [if_neg (by omega)]; exact h2

theorem laid_get (base lock : Nat) (M : Mem) (ρ : Rho) (live : List Nat) (j : Nat) :
    (laid base lock (fun j => renO ρ (M.get j)) (live.map fun id => renO ρ (M.get id))).get j = match invOf base live j with | some id => renO ρ (M.get id) | none => .dead := by
  show bif2 (Nat.blt j base) (renO ρ (M.get j)) (nthO (live.map fun id => renO ρ (M.get id)) (j - base)) = _
  rw [bif2_eq]
  unfold invOf
  by_cases hb : j < base
  · have e : Nat.blt j base = true := Nat.ble_eq_true_of_le hb
    rw [if_pos e, if_pos hb]
  · have e : ¬ Nat.blt j base = true := fun h => hb (Nat.le_of_ble_eq_true h)
    rw [if_neg e, if_neg hb]
    unfold nthO
    rw [nth?_eq, List.getElem?_map]
    cases live[j - base]? <;> rfl

theorem compactU_eq {β : Type} (base : Nat) (vals : List AV) (M : Mem) (k : (AV → AV) → Mem → T β) : compactU base vals M k = compact base vals M k := by
  unfold compactU compact
  rw [forceNs_eq]
  simp only [forceOs_eq, mapL_eq]
theorem compact_ok {β : Type} {N : NB} {φ0 φ : Phi} {M0 M : Mem} {w0 w : World} (hr0 : Rep N φ0 M0 w0) (hr : Rep N φ M w) (he : Ext φ0 M0 w0 φ M w) {base : Nat} (hb : base = M0.next) {vals : List AV} {k : (AV → AV) → Mem → T β} {Q : β → Prop} {Qp : AV → Mem → Prop}
    (h : (compact base vals M k).holds Q Qp) : ∃ f φ' M', (k f M').holds Q Qp ∧ (∀ x v, AVRel φ x v → AVRel φ' (f x) v) ∧ Rep N φ' M' w ∧ Ext φ0 M0 w0 φ' M' w := by
  unfold compact at h
  rw [bif2_eq] at h
  split at h
  · exact ⟨_, φ, M, h, fun _ _ h => h, hr, he⟩
  rw [forceNs_eq] at h
  generalize newOnly base (walk M 200 (catL ids1 vals) []) = live at h
  obtain ⟨hok, h⟩ := br_ok h
  rw [forceOs_eq] at h
  rw [bif2_eq] at hok
  split at hok
  case isFalse => cases hok
  rename_i hlock
  have hlock : M.lock ≤ base := Nat.le_of_ble_eq_true hlock
  obtain ⟨hge, hnd⟩ := liveOk_ok live hok
  let φ' : Phi := fun j => (invOf base live j).bind φ
  have hφ : ∀ {j id}, invOf base live j = some id → φ' j = φ id := fun {j id} e => by simp [φ', e]
  have hφs : ∀ {j x}, φ' j = some x → ∃ id, invOf base live j = some id ∧ φ id = some x := by
    intro j x e
    simp only [φ', Option.bind_eq_some_iff] at e
    exact e
  have hren : RenOk φ φ' (rhoOf base live) := fun id j e => hφ (rhoOf_ok e)
  have hown : ∀ j x, isOwn ((laid base M.lock (fun j => renO (rhoOf base live) (M.get j)) (live.map fun id => renO (rhoOf base live) (M.get id))).get j) → φ' j = some x → ∃ id, invOf base live j = some id ∧ φ id = some x ∧ isOwn (M.get id) := by
    intro j x h1 h2
    obtain ⟨id, h3, h4⟩ := hφs h2
    rw [laid_get, h3] at h1
    simp only [isOwn_renO] at h1
    exact ⟨id, h3, h4, h1⟩
  have hlt : ∀ {j}, j < base → invOf base live j = some j := fun {j} e => if_pos e
  refine ⟨_, φ', _, h, fun x v => ren1_rel hren, ⟨fun j => ?_, fun j j' p p' h1 h2 h3 h4 e => ?_, fun j p h1 h2 => ?_, fun j hj => ?_, hr.size⟩,
    ⟨fun id x e => ?_, fun id hid => ?_, by rw [← hb]; exact Nat.le_add_right .., he.lock, he.os, he.tape, he.output, he.size, he.keep, fun j p h1 h2 h3 => ?_⟩⟩
  · rw [laid_get]
    cases e : invOf base live j with
    | none => exact hr.glob
    | some id => exact (hr.objs id).ren hren (hφ e)
  · obtain ⟨a, a1, a2, a3⟩ := hown j _ h1 h3
    obtain ⟨b, b1, b2, b3⟩ := hown j' _ h2 h4
    have := hr.sep a b p p' a3 b3 a2 b2 e
    subst this
    exact invOf_inj hge hnd a1 b1
  · obtain ⟨a, a1, a2, a3⟩ := hown j _ h1 h2
    exact hr.high a p a3 a2
  · have hj : base + live.length ≤ j := by simpa [laid] using hj
    have hnone : invOf base live j = none := by
      unfold invOf
      rw [if_neg (by omega)]
      exact List.getElem?_eq_none (by omega)
    rw [laid_get, hnone]
    exact ⟨rfl, by simp [φ', hnone]⟩
  · have hid : id < base := by
      rw [hb]
      rcases Nat.lt_or_ge id M0.next with h | h
      · exact h
      · rw [(hr0.fresh id h).2] at e; cases e
    rw [hφ (hlt hid)]
    exact he.phi id x e
  · rw [hφ (hlt (by rw [hb]; exact hid))]
    exact he.phi0 id hid
  · obtain ⟨a, a1, a2, a3⟩ := hown j _ h1 h2
    obtain ⟨id', p', k1, k2, k3, k4⟩ := he.old a p a3 a2 h3
    refine ⟨id', p', k1, k2, k3, fun hl => k4 ?_⟩
    unfold invOf at a1
    split at a1
    · cases a1; exact hl
    · have := hge a (List.mem_of_getElem? a1)
      rw [← he.lock]; omega
theorem iota_eq (n : Nat) : iota n = List.range n := by
  induction n with
  | zero => rfl
  | succ n ih => rw [List.range_succ, ← ih]; rfl
theorem cst_eq (l : List Nat) (st : Tmps) : cst l (mapL st l) = keepOnly l st := by
  induction l with
  | nil => rfl
  | cons t l ih => show putA (some t) (cst l (mapL st l)) (st t) = putA (some t) (keepOnly l st) (st t); rw [ih]
theorem seal_eq {N : NB} {φ : Phi} {M : Mem} {w : World} (h : Rep N φ M w) : sealM M = M := by
  obtain ⟨next, lock, get⟩ := M
  unfold sealM memL
  simp only [mapL_eq, iota_eq, List.length_map, List.length_range]
  congr 1
  funext id
  show nthO ((List.range next).map get) id = get id
  unfold nthO
  rw [nth?_eq]
  rcases Nat.lt_or_ge id next with h1 | h1
  · rw [List.getElem?_map, List.getElem?_range h1]; rfl
  · rw [List.getElem?_eq_none (by simpa using h1)]
    exact ((h.fresh id h1).1).symm
/-- What a head is told. -/
noncomputable def sealIf (z : Bool) (M : Mem) : Mem := bif2 z M (sealM M)
theorem sealIf_eq {N : NB} {φ : Phi} {M : Mem} {w : World} (h : Rep N φ M w) (z : Bool) : sealIf z M = M := by
  cases z with
  | true => rfl
  | false => exact seal_eq h
theorem headF_eq (base : Nat) (roots : List AV) (keep : Keep) (st : Tmps) (M : Mem) (k : Tmps → Mem → T (X × Tmps × Mem)) :
    headF base roots keep st M k = compact base (roots ++ mapL (keepOnly keep.l st) keep.l) M fun f M => k (keepOnly keep.l fun t => f (keepOnly keep.l st t)) (sealIf keep.z M) := by
  unfold headF
  rw [keepF_eq, compactU_eq]
  simp only [keepF_eq, cst_eq]
  cases keep.z <;> rfl
theorem shutF_eq (z : Bool) (base : Nat) (roots : List AV) (y : List AV × Mem) : shutF z base roots y = compact base (roots ++ y.1) y.2 fun f M => .ret (single (mapL f y.1, M)) := by
  unfold shutF
  rw [compactU_eq]
  simp only [forceL_eq]
  cases z <;> rfl
end Go.Eng

set_option autoImplicit false
namespace Go.Eng
open Go Go.RowKit

theorem stA_ren {R : DR} {st0 : Tmps} {anc : Nat} (f : AV → AV) (x : Mem) (l : List Oper) : ∀ (k t : Nat), stA (fun k => (f (R k).1, x)) st0 anc l k t = f (stA R st0 anc l k t) ∨
    (stA (fun k => (f (R k).1, x)) st0 anc l k t = st0 t ∧ ∀ (i : Nat) (o : Oper), l[i]? = some o → o.dst ≠ some t) ∨ stA (fun k => (f (R k).1, x)) st0 anc l k t = .top := by
  induction l with
  | nil => intro k t; exact .inr (.inl ⟨rfl, by simp⟩)
  | cons o l ih =>
    intro k t
    have h : stA (fun k => (f (R k).1, x)) st0 anc (o :: l) k t = putA o.dst (stA (fun k => (f (R k).1, x)) st0 anc l (k + 1)) (bif2 (Nat.testBit anc k) (f (R k).1) .top) t := rfl
    have h' : stA R st0 anc (o :: l) k t = putA o.dst (stA R st0 anc l (k + 1)) (bif2 (Nat.testBit anc k) (R k).1 .top) t := rfl
    rw [h, h', putA_eq, putA_eq]
    cases hd : o.dst with
    | none =>
      rcases ih (k + 1) t with e | ⟨e, hno⟩ | e
      · exact .inl e
      · refine .inr (.inl ⟨e, fun i p hp => ?_⟩)
        cases i with
        | zero => simp only [List.getElem?_cons_zero, Option.some.injEq] at hp; subst hp; rw [hd]; simp
        | succ i => exact hno i p (by simpa using hp)
      · exact .inr (.inr e)
    | some d =>
      by_cases htd : t = d
      · simp only [if_pos htd, bif2_eq]
        split
        · exact .inl rfl
        · exact .inr (.inr rfl)
      · simp only [if_neg htd]
        rcases ih (k + 1) t with e | ⟨e, hno⟩ | e
        · exact .inl e
        · refine .inr (.inl ⟨e, fun i p hp => ?_⟩)
          cases i with
          | zero => simp only [List.getElem?_cons_zero, Option.some.injEq] at hp; subst hp; rw [hd]; intro e; exact htd (Option.some.inj e).symm
          | succ i => exact hno i p (by simpa using hp)
        · exact .inr (.inr e)
section
variable {P : Program} {tt : TT} {callF : FuncId → List AV → Mem → T (AV × Mem)} {N : NB} {n : Nat} {ds : List Deferred} {ops : Array Oper} {big : Nat} (tok : TTok P tt) (hc : CallsOk P N callF)
include tok hc
theorem evDraw_ok (hmix : P.follows .mixedOrders = true) (hall : ∀ o ∈ ops.toList, OpOk P n o) {Q : Tmps × Mem → Prop} {Qp : AV → Mem → Prop} {QX : Exit → Act → World → Prop} {id : Nat} {a : Act} {w : World} {φ : Phi} {st : Tmps} {M : Mem}
    (h : (evDraw P tt callF big ops.toList st M).holds Q Qp) (hs : StOk N n ds φ M w st a)
    (hq : ∀ φ' M' w' st' a', Q (st', M') → StOk N n ds φ' M' w' st' a' → Ext φ M w φ' M' w' → QX .normal a' w') (hp : PanOk N ds φ M w Qp QX) : (Code.region id ops true).wp P QX a w := by
  refine Code.wp_mono (Q := fun e a' w' => match e with
    | .normal => ∃ φ' M' st', Q (st', M') ∧ StOk N n ds φ' M' w' st' a' ∧ Ext φ M w φ' M' w'
    | .panic c => a'.defers = ds ∧ ∀ QX' : Exit → Act → World → Prop, PanOk N ds φ M w Qp QX' → ∀ a'', a''.defers = ds → QX' (.panic c) a'' w'
    | _ => False) ?_ ?_
  · intro e a' w' he
    cases e with
    | normal => obtain ⟨φ', M', st', h1, h2, h3⟩ := he; exact hq φ' M' w' st' a' h1 h2 h3
    | panic c => exact he.2 QX hp a' he.1
    | _ => exact he.elim
  clear hq hp
  have hq : ∀ φ' M' w' st' a', Q (st', M') → StOk N n ds φ' M' w' st' a' → Ext φ M w φ' M' w' → ∃ φ' M' st', Q (st', M') ∧ StOk N n ds φ' M' w' st' a' ∧ Ext φ M w φ' M' w' := fun φ' M' w' st' a' h1 h2 h3 => ⟨φ', M', st', h1, h2, h3⟩
  have hp : ∀ (v : Value) (a' : Act) (w' : World), a'.defers = ds → GoodP N φ M w Qp v w' → a'.defers = ds ∧ ∀ QX' : Exit → Act → World → Prop, PanOk N ds φ M w Qp QX' → ∀ a'', a''.defers = ds → QX' (.panic [{ v, recovered := false }]) a'' w' :=
    fun v a' w' hd hg => ⟨hd, fun QX' hp a'' hd' => hp v a'' w' hd' hg⟩
  obtain ⟨hb, h⟩ := ck_ok h
  rw [masksK_eq, forceN_eq] at h
  obtain ⟨he, hb⟩ := Bool.and_eq_true_iff.1 hb
  obtain ⟨hd, hbig⟩ := Bool.and_eq_true_iff.1 hb
  obtain ⟨hbig, hsel⟩ := Bool.and_eq_true_iff.1 hbig
  have hsel : Region.noSelect ops = true := by
    unfold Region.noSelect
    rw [← Array.all_toList]
    exact hsel
  have hbig : 0 < big := Nat.le_of_ble_eq_true hbig
  have hm := maskOk he
  rw [T.holds_bind] at h
  generalize split ops.toList (masks ops.toList 0 fun _ => 0) ops.toList 0 0 = m at *
  have hlen : ops.toList.length = ops.size := Array.length_toList
  obtain ⟨R, F, G, hend, _, hGn, hR⟩ := drawGo_ok hm.lt _ (fun _ _ => rfl) h
  generalize htg : preT tt M st ops.toList (ops.toList.take m) = tg at *
  obtain ⟨e1, e2, e3⟩ := topM_same tg M
  obtain ⟨hlate, hend⟩ := ck_ok hend
  obtain ⟨hms, hlate⟩ := Bool.and_eq_true_iff.1 hlate
  have hms : m ≤ ops.size := by have := Nat.le_of_ble_eq_true hms; omega
  have hsp : ∀ i, m ≤ i → i < ops.size → ∀ u, u < i → Nat.testBit (masks ops.toList 0 (fun _ => 0) i) u = true ∨ (u < m ∧ PureAt ops (masks ops.toList 0 fun _ => 0) st R G u) := by
    intro i h1 h2 u h3
    have hl := lateAll_spec _ hlate (k := i - m) (by rw [List.length_drop]; omega)
    rw [show m + (i - m) = i by omega] at hl
    have hu : ops[u]? = some ops[u] := Array.getElem?_eq_getElem (by omega)
    have := lateV_spec _ hl (k := u) (o := ops[u]) (by simpa using hu) (by omega)
    rw [Nat.zero_add] at this
    rcases this with h4 | ⟨h4, h5, h6⟩
    · exact .inl h4
    · have hF := hR u ops[u] (by rw [List.getElem?_take, if_pos h4]; simpa using hu)
      rw [Nat.zero_add] at hF
      rcases hF with ⟨hGu, _, _, hF⟩ | ⟨_, _, hF⟩
      · exact .inr ⟨h4, _, hu, hGu, h5, hF h6⟩
      · have h6 : F u = true := h6
        rw [hF] at h6; cases h6
  have hrep0 : Rep N φ (topM tg M) w.drew := topM_rep tg hs.rep.draw
  have hin : ∀ k g, G k = some g → k < m ∧ k < ops.size := fun k g hk => by
    rcases Nat.lt_or_ge k (0 + (ops.toList.take m).length) with h1 | h1
    · rw [List.length_take] at h1; omega
    · rw [hGn k h1] at hk; cases hk
  have gok : GOk (masks ops.toList 0 fun _ => 0) big (topM tg M) φ w.drew R G := by
    refine ⟨fun k id off l hG => ?_, fun id hid ho => ?_, fun k k' id off l off' l' hkk hG hG' => ?_⟩
    · obtain ⟨hkm, hks⟩ := hin k _ hG
      have hku : ops[k]? = some ops[k] := Array.getElem?_eq_getElem hks
      have := hR k ops[k] (by rw [List.getElem?_take, if_pos hkm]; simpa using hku)
      rw [Nat.zero_add] at this
      rcases this with ⟨hGu, _⟩ | ⟨hf, _, _⟩
      · rw [hGu] at hG; cases hG
      · obtain ⟨t, x, y, id', r, c, e, rs, cells, o1, o2, o3, hb, hx, hg, hG2, k1, k3, k4, k5, k6, k7⟩ := hf.ex
        rw [hG] at hG2; cases hG2
        exact ⟨e, rs, cells, hg, by rw [k4]; exact k5, by rw [k4]; exact k6, k1, k3⟩
    · have hob := hrep0.objs id
      cases hg : (topM tg M).get id with
      | own e rs cells => rw [hg] at hob; obtain ⟨p, hp, _⟩ := hob; exact ⟨p, hp, own_lt hrep0 (by rw [hg]; trivial) hp⟩
      | vec e n cols => rw [hg] at hob; obtain ⟨_, p, hp, _⟩ := hob; exact ⟨p, hp, own_lt hrep0 (by rw [hg]; trivial) hp⟩
      | dead => rw [hg] at ho; exact ho.elim
      | ro a b c => rw [hg] at ho; exact ho.elim
      | map es cl => rw [hg] at hob; obtain ⟨p, hp, _⟩ := hob; exact ⟨p, hp, own_lt hrep0 (by rw [hg]; trivial) hp⟩
    · obtain ⟨hkm, hks⟩ := hin k' _ hG'
      have hku : ops[k']? = some ops[k'] := Array.getElem?_eq_getElem hks
      have := hR k' ops[k'] (by rw [List.getElem?_take, if_pos hkm]; simpa using hku)
      rw [Nat.zero_add] at this
      rcases this with ⟨hGu, _⟩ | ⟨hf, _, _⟩
      · rw [hGu] at hG'; cases hG'
      · obtain ⟨t, x, y, id', r, c, e, rs, cells, o1, o2, o3, hb, hx, hg, hG2, k1, k3, k4, k5, k6, k7⟩ := hf.ex
        rw [hG'] at hG2; cases hG2
        have := k7 k hkk off' l' hG
        rw [k4]; exact this
  refine wp_region_any hmix (draw_any (Q := Q) (Qp := Qp) (ds := ds) (M0 := topM tg M) (st0 := st) (φ0 := φ) (w0 := w.drew) (R := R) (G := G) (mk := masks ops.toList 0 fun _ => 0) tok hc hall hm hd hbig hms hsp hsel ?_ gok (nt := fun d => newT tt ops.toList d (ops.toList.take m)) ?_ ?_ ?_ ?_ ops.size _ a _ (by simp) (unl_init _) (.inl ⟨φ, ?_⟩))
  · intro d v c a' w' hx
    exact ⟨(put_defers ..).symm.trans hx.1, hx.2⟩
  · intro j o hj ho
    have := hR j o (by rw [List.getElem?_take, if_pos hj]; simpa using ho)
    rw [Nat.zero_add] at this
    rcases this with ⟨h1, h2, h3, _⟩ | ⟨h1, h2, _⟩
    · exact .inl ⟨h1, h2, h3⟩
    · exact .inr ⟨h1, h2⟩
  · intro φ2 a2 w2 h1 h2 h3
    unfold drawEnd at hend
    rw [compactU_eq] at hend
    obtain ⟨f, φ3, M3, k1, k2, k3, k4⟩ := compact_ok hrep0 h1.rep h2 rfl hend
    rw [seal_eq k3] at k1
    refine ⟨φ3, _, M3, k1, ⟨k3, fun t => ?_, h1.size, h1.defers⟩, k4⟩
    rcases stA_ren (R := R) (st0 := st) (anc := Nat.sub (Nat.pow 2 m) 1) f (topM tg M) (ops.toList.take m) 0 t with e | ⟨e, hno⟩ | e
    · rw [e]; exact k2 _ _ (h1.tmps t)
    · rw [e]
      exact (h3 t fun k o hk ho => hno k o (by rw [List.getElem?_take, if_pos hk]; simpa using ho)).mono k4.phi
    · rw [e]; exact .top _
  · intro φ' M' w' st' a' h1 h2 h3
    exact hq φ' M' w' st' a' h1 h2 ((Ext.draw φ M w).trans h3.untop)
  · intro v a' w' hd' hg
    obtain ⟨φ2, x2, M2, g1, g2, g3, g4⟩ := hg
    exact hp v a' w' hd' ⟨φ2, x2, M2, g1, g2, g3, (Ext.draw φ M w).trans g4.untop⟩
  · have hno : ∀ k, ¬ (Array.replicate ops.size false).getD k false = true := by
      intro k
      by_cases hk : k < ops.size <;> simp [Array.getD_eq_getD_getElem?, hk]
    refine ⟨fun _ _ => rfl, fun id hid hne => absurd ((hrep0.fresh id hid).2) hne, fun k hk => absurd hk (hno k), fun k hk => absurd hk (hno k), fun k hk => absurd hk (hno k), fun t _ => hs.tmps t, ?_, hrep0, fun _ _ _ => rfl, fun k hk => absurd hk (hno k), rfl, rfl, rfl, Nat.le_refl _, hs.size, hs.defers, ?_, fun k hk => absurd hk (hno k)⟩
    · intro id id' p p' ho ho' hp1 hp2 e
      rcases ho with ⟨_, h1⟩ | ⟨_, h1, _⟩
      · rcases ho' with ⟨_, h2⟩ | ⟨_, h2, _⟩
        · exact hrep0.sep id id' p p' h1 h2 hp1 hp2 e
        · exact absurd h2 (hno _)
      · exact absurd h1 (hno _)
    · intro id p hid ho hp1
      rcases ho with ⟨h1, _⟩ | ⟨_, h1, _⟩
      · omega
      · exact absurd h1 (hno _)
end
end Go.Eng

set_option autoImplicit false
namespace Go.Eng
open Go Go.RowKit

theorem eqO_ok {a b : Option Nat} (h : eqO a b = true) : a = b := by
  cases a with
  | none => cases b with
    | none => rfl
    | some y => cases h
  | some x => cases b with
    | none => cases h
    | some y => exact congrArg some (Nat.eq_of_beq_eq_true h)
theorem eqVal_ok {a b : Value} (h : eqVal a b = true) : a = b := by
  unfold eqVal at h
  split at h
  · split at h
    · rfl
    · cases h
  · split at h
    · obtain ⟨h1, h2⟩ := Bool.and_eq_true_iff.1 h
      rw [Array.eq_empty_of_size_eq_zero (Nat.eq_of_beq_eq_true h1), Array.eq_empty_of_size_eq_zero (Nat.eq_of_beq_eq_true h2)]
    · cases h
  · split at h
    · obtain ⟨h1, h2⟩ := Bool.and_eq_true_iff.1 h
      rw [Array.eq_empty_of_size_eq_zero (Nat.eq_of_beq_eq_true h1), Array.eq_empty_of_size_eq_zero (Nat.eq_of_beq_eq_true h2)]
    · cases h
  · split at h
    · rfl
    · cases h
  · split at h
    · obtain ⟨h1, h2⟩ := Bool.and_eq_true_iff.1 h
      rw [of_decide_eq_true h1, Nat.eq_of_beq_eq_true h2]
    · cases h
  · split at h
    · rfl
    · cases h
  · cases h
theorem eqA0_ok {a b : AV} (h : eqA0 a b = true) : a = b := by
  unfold eqA0 at h
  split at h
  · split at h
    · obtain ⟨h1, h2⟩ := Bool.and_eq_true_iff.1 h
      rw [of_decide_eq_true h1, of_decide_eq_true h2]
    · cases h
  · split at h
    · rw [eq_of_beq h]
    · cases h
  · split at h
    · rename_i x y
      have h := of_decide_eq_true h
      congr 1
      exact ByteArray.ext (Array.ext' h)
    · cases h
  · split at h
    · rw [eqVal_ok h]
    · cases h
  · split at h
    · obtain ⟨h1, h2⟩ := Bool.and_eq_true_iff.1 h
      obtain ⟨h2, h3⟩ := Bool.and_eq_true_iff.1 h2
      rw [Nat.eq_of_beq_eq_true h1, Nat.eq_of_beq_eq_true h2, Nat.eq_of_beq_eq_true h3]
    · cases h
  · split at h
    · obtain ⟨h1, h2⟩ := Bool.and_eq_true_iff.1 h
      obtain ⟨h2, h3⟩ := Bool.and_eq_true_iff.1 h2
      obtain ⟨h3, h4⟩ := Bool.and_eq_true_iff.1 h3
      rw [Nat.eq_of_beq_eq_true h1, Nat.eq_of_beq_eq_true h2, Nat.eq_of_beq_eq_true h3, eqO_ok h4]
    · cases h
  · split at h
    · rfl
    · cases h
  · split at h
    · rw [Nat.eq_of_beq_eq_true h]
    · cases h
  · cases h
theorem eqL0_ok (l : List AV) : ∀ {m : List AV}, eqL0 l m = true → l = m := by
  induction l with
  | nil =>
    intro m h
    cases m with
    | nil => rfl
    | cons y m => cases h
  | cons x l ih =>
    intro m h
    cases m with
    | nil => cases h
    | cons y m =>
      obtain ⟨h1, h2⟩ := bif2_tt (show bif2 (eqA0 x y) (eqL0 l m) false = true from h)
      rw [eqA0_ok h1, ih h2]
theorem eqA1_ok {a b : AV} (h : eqA1 a b = true) : a = b := by
  unfold eqA1 at h
  split at h
  · split at h
    · rw [eqL0_ok _ h]
    · cases h
  · exact eqA0_ok h
theorem eqLA_ok (l : List AV) : ∀ {m : List AV}, eqLA l m = true → l = m := by
  induction l with
  | nil =>
    intro m h
    cases m with
    | nil => rfl
    | cons y m => cases h
  | cons x l ih =>
    intro m h
    cases m with
    | nil => cases h
    | cons y m =>
      obtain ⟨h1, h2⟩ := bif2_tt (show bif2 (eqA1 x y) (eqLA l m) false = true from h)
      rw [eqA1_ok h1, ih h2]
theorem eqAV_ok {a b : AV} (h : eqAV a b = true) : a = b := by
  unfold eqAV at h
  split at h
  · split at h
    · obtain ⟨h1, h2⟩ := Bool.and_eq_true_iff.1 h
      rw [Nat.eq_of_beq_eq_true h1, eqL0_ok _ h2]
    · cases h
  · split at h
    · rw [eqLA_ok _ h]
    · cases h
  · split at h
    · rw [eqL0_ok _ h]
    · cases h
  · exact eqA0_ok h
theorem okV0_rel {φ φ' : Phi} {n : Nat} {x : AV} {v : Value} (h : okV0 n x = true) (hx : AVRel φ' x v) (he : ∀ id, id < n → φ' id = φ id) : AVRel φ x v := by
  cases hx with
  | i k n => exact .i _ _
  | b x => exact .b _
  | s x => exact .s _
  | v x => exact .v _
  | e A cc => exact .e _ _
  | ptr id r c p hp hps =>
    have hlt : id < n := Nat.le_of_ble_eq_true h
    exact .ptr _ _ _ p ((he id hlt).symm.trans hp) hps
  | sl id r n' cap y cc h1 h0 hc hle hk hs =>
    have hlt : id < n := Nat.le_of_ble_eq_true h
    exact .sl _ _ _ _ _ _ ((he id hlt).symm.trans h1) h0 hc hle hk hs
  | mp id p h1 =>
    have hlt : id < n := Nat.le_of_ble_eq_true h
    exact .mp _ p ((he id hlt).symm.trans h1)
  | _ => cases h

theorem okVL_rel {φ φ' : Phi} {n : Nat} (he : ∀ id, id < n → φ' id = φ id) (l : List AV) : ∀ {vs : List Value}, okVL n l = true → AVsRel φ' l vs → AVsRel φ l vs := by
  induction l with
  | nil => intro vs _ h; cases h; exact .nil
  | cons x l ih =>
    intro vs h hv
    obtain ⟨h1, h2⟩ := bif2_tt (show bif2 (okV0 n x) (okVL n l) false = true from h)
    cases hv with
    | cons a b => exact .cons (okV0_rel h1 a he) (ih h2 b)
theorem okV1_rel {φ φ' : Phi} {n : Nat} {x : AV} {v : Value} (h : okV1 n x = true) (hx : AVRel φ' x v) (he : ∀ id, id < n → φ' id = φ id) : AVRel φ x v := by
  cases hx with
  | agg l a hl => exact .agg _ _ (okVL_rel he _ h hl)
  | i k m => exact .i _ _
  | b x => exact .b _
  | s x => exact .s _
  | v x => exact .v _
  | e A cc => exact .e _ _
  | ptr id r c p hp hps => exact okV0_rel (x := .ptr id r c) h (.ptr _ _ _ p hp hps) he
  | sl id r n' cap y cc h1 h0 hc hle hk hs => exact okV0_rel (x := .sl id r n' cap) h (.sl _ _ _ _ _ _ h1 h0 hc hle hk hs) he
  | mp id p h1 => exact okV0_rel (x := .mp id) h (.mp _ p h1) he
  | _ => cases h
theorem okVLA_rel {φ φ' : Phi} {n : Nat} (he : ∀ id, id < n → φ' id = φ id) (l : List AV) : ∀ {vs : List Value}, okVLA n l = true → AVsRel φ' l vs → AVsRel φ l vs := by
  induction l with
  | nil => intro vs _ h; cases h; exact .nil
  | cons x l ih =>
    intro vs h hv
    obtain ⟨h1, h2⟩ := bif2_tt (show bif2 (okV1 n x) (okVLA n l) false = true from h)
    cases hv with
    | cons a b => exact .cons (okV1_rel h1 a he) (ih h2 b)
theorem okV_rel {φ φ' : Phi} {n : Nat} {x : AV} {v : Value} (h : okV n x = true) (hx : AVRel φ' x v) (he : ∀ id, id < n → φ' id = φ id) : AVRel φ x v := by
  cases hx with
  | fn f l a hl => exact .fn _ _ _ (okVL_rel he _ h hl)
  | tup l a hl => exact .tup _ _ (okVLA_rel he _ h hl)
  | agg l a hl => exact .agg _ _ (okVL_rel he _ h hl)
  | i k m => exact .i _ _
  | b x => exact .b _
  | s x => exact .s _
  | v x => exact .v _
  | e A cc => exact .e _ _
  | ptr id r c p hp hps => exact okV0_rel (x := .ptr id r c) h (.ptr _ _ _ p hp hps) he
  | sl id r n' cap y cc h1 h0 hc hle hk hs => exact okV0_rel (x := .sl id r n' cap) h (.sl _ _ _ _ _ _ h1 h0 hc hle hk hs) he
  | mp id p h1 => exact okV0_rel (x := .mp id) h (.mp _ p h1) he
  | _ => cases h
section
variable {P : Program} {tt : TT} {callF : FuncId → List AV → Mem → T (AV × Mem)} {N : NB} {n : Nat} {ds : List Deferred} {ops : Array Oper} (tok : TTok P tt) (hc : CallsOk P N callF)
include tok hc
/-- One operation, told by the slots of those ahead of it. -/
theorem d2_step (hall : ∀ o ∈ ops.toList, OpOk P n o) {φ : Phi} {w : World} {a : Act} {A : Mem} {st : Tmps} (hA : Rep N φ A w) (hT : TmpsRel φ st a.tmps) (hsz : a.tmps.size = n)
    {j : Nat} {o : Oper} (ho : ops[j]? = some o) {Q : AV × Mem → Prop} (hop : (drawOp P tt callF ops.toList A st o).holds Q (fun _ _ => False)) {QX : Exit → Act → World → Prop} {K : Act → World → Prop}
    (hK : ∀ v w', Good N φ A w Q v w' → K (a.put o.dst v) w') : wpOp P ops QX j K a w := by
  have hoo := hall o (by rw [Array.mem_toList_iff]; exact Array.mem_of_getElem? ho)
  have go : (evOp ⟨P, tt, callF, A, st⟩ o.op).holds Q (fun _ _ => False) → o.wp P a w K QX := by
    intro hh
    have hout := evOp_ok (K := ⟨P, tt, callF, A, st⟩) rfl tok hc hA hT o hh hoo.2
    unfold Oper.wp
    rcases hout with ⟨v, w', hrun, hg⟩ | ⟨v, w', hrun, hg⟩ | ⟨f, args, w', hrun, hcalls⟩
    · rcases hrun with hrun | ⟨hrun, hv⟩
      · rw [hrun]; exact hK v w' hg
      · rw [hrun]; subst hv; exact hK _ w' hg
    · obtain ⟨_, _, _, hF, _⟩ := hg; exact hF.elim
    · rw [hrun]
      refine Calls.mono hcalls ?_
      intro e w'' he
      rcases he with ⟨v, rfl, hg⟩ | ⟨v, rfl, hg⟩
      · exact hK v w'' hg
      · obtain ⟨_, _, _, hF, _⟩ := hg; exact hF.elim
  have skip : Q (AV.v undef, A) → K (a.put o.dst undef) w := fun e => hK undef w (.here hA e (.v _))
  unfold wpOp
  simp only [ho]
  rcases drawOp_ok hop with ⟨hg, hh⟩ | ⟨g, want, p, d, hg, hp, hdp, hh⟩
  · rw [if_pos (by simp [Region.wanted, hg])]
    exact .inl (go hh)
  · have hpok := hall p (List.mem_of_getElem? hp)
    have hlt : d < a.tmps.size := by rw [hsz]; exact hpok.1 d hdp
    obtain ⟨y1, y2⟩ := yielded_rel hT hp hdp hlt
    rcases hh with ⟨b, hb, h1, h2⟩ | ⟨h1, h2, h3, h4⟩
    · have hy := y1 b hb
      by_cases e : b = want
      · rw [if_pos (by simp [Region.wanted, hg, hy, e])]
        exact .inl (go (h1 e))
      · rw [if_neg (by simp [Region.wanted, hg, hy, e])]
        exact skip (h2 e)
    · rw [if_neg (by simp [Region.wanted, hg, y2 h1 h2 h3])]
      exact skip h4
end

theorem inW_ok {mk : Nat → Nat} {b j : Nat} (l : List Oper) : ∀ {i : Nat} (_ : ∀ k o, l[k]? = some o → mvK o = false → (i + k < b → Nat.testBit (mk (i + k)) j = false) ∧ (¬ i + k < b → Nat.testBit (mk j) (i + k) = false)), inW mk b j l i = true := by
  induction l with
  | nil => intro i _; rfl
  | cons o l ih =>
    intro i h
    have hr : inW mk b j l (i + 1) = true := ih fun k p hp hm => by
      have := h (k + 1) p (by simpa using hp) hm
      rw [show i + 1 + k = i + (k + 1) by omega]; exact this
    show bif2 (mvK o) (inW mk b j l (i + 1)) (bif2 (Nat.blt i b) (bif2 (Nat.testBit (mk i) j) false (inW mk b j l (i + 1))) (bif2 (Nat.testBit (mk j) i) false (inW mk b j l (i + 1)))) = true
    rw [hr]
    cases hm : mvK o with
    | true => rfl
    | false =>
      obtain ⟨h1, h2⟩ := h 0 o rfl hm
      rw [Nat.add_zero] at h1 h2
      by_cases hb : i < b
      · have e : Nat.blt i b = true := Nat.ble_eq_true_of_le hb
        rw [e, h1 hb]; rfl
      · have e : Nat.blt i b = false := by
          cases hh : Nat.blt i b with
          | false => rfl
          | true => exact absurd (Nat.le_of_ble_eq_true hh) hb
        rw [e, h2 hb]; rfl
theorem totD_ok {mk : Nat → Nat} {j : Nat} (l : List Oper) : ∀ {i : Nat} (_ : totD mk j l i = true) {k : Nat} {o : Oper} (_ : l[k]? = some o) (_ : mvK o = false) (_ : i + k < j), Nat.testBit (mk j) (i + k) = true := by
  induction l with
  | nil => intro i _ k o h; simp at h
  | cons p l ih =>
    intro i h k o ho hm hk
    have h : bif2 (Nat.blt i j) (bif2 (mvK p) (totD mk j l (i + 1)) (bif2 (Nat.testBit (mk j) i) (totD mk j l (i + 1)) false)) true = true := h
    have e : Nat.blt i j = true := Nat.ble_eq_true_of_le (by omega : i < j)
    rw [e] at h
    have h : bif2 (mvK p) (totD mk j l (i + 1)) (bif2 (Nat.testBit (mk j) i) (totD mk j l (i + 1)) false) = true := h
    cases k with
    | zero =>
      simp at ho; subst ho
      rw [hm] at h
      have h : bif2 (Nat.testBit (mk j) i) (totD mk j l (i + 1)) false = true := h
      rw [Nat.add_zero]
      exact (bif2_tt h).1
    | succ k =>
      have hr : totD mk j l (i + 1) = true := by
        cases hm' : mvK p with
        | true => rw [hm'] at h; exact h
        | false =>
          rw [hm'] at h
          have h : bif2 (Nat.testBit (mk j) i) (totD mk j l (i + 1)) false = true := h
          exact (bif2_tt h).2
      have := ih hr (k := k) (o := o) (by simpa using ho) hm (by omega)
      rw [show i + (k + 1) = i + 1 + k by omega]; exact this
theorem totA_ok {mk : Nat → Nat} {all : List Oper} (l : List Oper) : ∀ {j : Nat} (_ : totA mk all l j = true) {k : Nat} {o : Oper} (_ : l[k]? = some o) (_ : mvK o = false), totD mk (j + k) all 0 = true := by
  induction l with
  | nil => intro j _ k o h; simp at h
  | cons p l ih =>
    intro j h k o ho hm
    have h : bif2 (mvK p) (totA mk all l (j + 1)) (bif2 (totD mk j all 0) (totA mk all l (j + 1)) false) = true := h
    cases k with
    | zero =>
      simp at ho; subst ho
      rw [hm] at h
      have h : bif2 (totD mk j all 0) (totA mk all l (j + 1)) false = true := h
      exact (bif2_tt h).1
    | succ k =>
      have hr : totA mk all l (j + 1) = true := by
        cases hm' : mvK p with
        | true => rw [hm'] at h; exact h
        | false =>
          rw [hm'] at h
          have h : bif2 (totD mk j all 0) (totA mk all l (j + 1)) false = true := h
          exact (bif2_tt h).2
      have := ih hr (k := k) (o := o) (by simpa using ho) hm
      rw [show j + (k + 1) = j + 1 + k by omega]; exact this
section
variable {P : Program} {tt : TT} {callF : FuncId → List AV → Mem → T (AV × Mem)} {all : List Oper} {mk : Nat → Nat} {st0 : Tmps} {V : DR}
theorem stage_ok {b : Nat} {M : Mem} {Qp : AV → Mem → Prop} (l : List Oper) : ∀ {j : Nat} {Q : Bool → Prop} (_ : (stageD P tt callF all mk st0 V b M l j).holds Q Qp),
    Q true ∧ ∀ k o, l[k]? = some o → mvK o = true → inW mk b (j + k) all 0 = true → (drawOp P tt callF all (lockAll M) (stA V st0 (mk (j + k)) (effL mk (j + k) all 0) 0) o).holds (fun x => eqAV x.1 (V (j + k)).1 = true ∧ okV M.next x.1 = true) (fun _ _ => False) := by
  induction l with
  | nil => intro j Q h; exact ⟨h, fun k o hk => by simp at hk⟩
  | cons p l ih =>
    intro j Q h
    have h : (bif2 (mvK p && inW mk b j all 0) ((drawOp P tt callF all (lockAll M) (stA V st0 (mk j) (effL mk j all 0) 0) p).bind fun x => .ck (eqAV x.1 (V j).1 && okV M.next x.1) (stageD P tt callF all mk st0 V b M l (j + 1))) (stageD P tt callF all mk st0 V b M l (j + 1))).holds Q Qp := h
    rw [bif2_eq] at h
    by_cases hc : (mvK p && inW mk b j all 0) = true
    · rw [if_pos hc, T.holds_bind] at h
      have h := drawOp_nopan h
      obtain ⟨x, hx, _⟩ := T.leaf h
      obtain ⟨h1, h2⟩ := ih (ck_ok hx).2
      refine ⟨h1, fun k o hk hm hw => ?_⟩
      cases k with
      | zero =>
        simp at hk; subst hk
        refine T.holds_mono h (fun y hy => ?_) (fun _ _ hf => hf)
        obtain ⟨a1, a2⟩ := Bool.and_eq_true_iff.1 (ck_ok hy).1
        exact ⟨a1, a2⟩
      | succ k =>
        have := h2 k o (by simpa using hk) hm (by rw [show j + 1 + k = j + (k + 1) by omega]; exact hw)
        rw [show j + (k + 1) = j + 1 + k by omega]; exact this
    · rw [if_neg hc] at h
      obtain ⟨h1, h2⟩ := ih h
      refine ⟨h1, fun k o hk hm hw => ?_⟩
      cases k with
      | zero => simp at hk; subst hk; exact absurd (Bool.and_eq_true_iff.2 ⟨hm, hw⟩) hc
      | succ k =>
        have := h2 k o (by simpa using hk) hm (by rw [show j + 1 + k = j + (k + 1) by omega]; exact hw)
        rw [show j + (k + 1) = j + 1 + k by omega]; exact this
end
end Go.Eng

set_option autoImplicit false
namespace Go.Eng
open Go Go.RowKit

theorem put_at {a : Act} {t : Tmp} {v : Value} (h : t < a.tmps.size) : (a.put (some t) v).tmps.getD t undef = v := by
  simp [Act.put, Array.getD_eq_getD_getElem?, h]
theorem put_ne {a : Act} {d : Option Tmp} {t : Tmp} {v : Value} (h : d ≠ some t) : (a.put d v).tmps.getD t undef = a.tmps.getD t undef := by
  cases d with
  | none => rfl
  | some d =>
    have : d ≠ t := fun e => h (congrArg some e)
    simp [Act.put, Array.getD_eq_getD_getElem?, Array.getElem?_setIfInBounds_ne this]
section
variable {P : Program} {tt : TT} {callF : FuncId → List AV → Mem → T (AV × Mem)} {mk : Nat → Nat} {st0 : Tmps} {V : DR} {ops : Array Oper}
theorem nextB {M : Mem} {Q : Mem → Prop} {Qp : AV → Mem → Prop} : ∀ (f b : Nat), ops.size - b = f → b ≤ ops.size → (chkD P tt callF ops.toList mk st0 V (ops.toList.drop b) b M).holds Q Qp →
    ∃ b', b ≤ b' ∧ b' ≤ ops.size ∧ (b' = ops.size ∨ ∃ o, ops[b']? = some o ∧ mvK o = false) ∧ (∀ k, b ≤ k → k < b' → ∀ o, ops[k]? = some o → mvK o = true) ∧ (chkD P tt callF ops.toList mk st0 V (ops.toList.drop b') b' M).holds Q Qp := by
  intro f
  induction f with
  | zero => intro b hf hb h; exact ⟨b, Nat.le_refl _, hb, .inl (by omega), fun k h1 h2 => by omega, h⟩
  | succ f ih =>
    intro b hf hb h
    have hlt : b < ops.size := by omega
    have hl : b < ops.toList.length := by simpa using hlt
    have ho : ops[b]? = some ops[b] := Array.getElem?_eq_getElem hlt
    cases hm : mvK ops[b] with
    | false => exact ⟨b, Nat.le_refl _, hb, .inr ⟨_, ho, hm⟩, fun k h1 h2 => by omega, h⟩
    | true =>
      rw [List.drop_eq_getElem_cons hl] at h
      have e : ops.toList[b] = ops[b] := by simp
      rw [e] at h
      have h : (bif2 (mvK ops[b]) (chkD P tt callF ops.toList mk st0 V (ops.toList.drop (b + 1)) (b + 1) M) ((stageD P tt callF ops.toList mk st0 V b M ops.toList 0).bind fun _ => (drawOp P tt callF ops.toList M (stA V st0 (mk b) (effL mk b ops.toList 0) 0) ops[b]).bind fun x => .ck (eqAV x.1 (V b).1) (chkD P tt callF ops.toList mk st0 V (ops.toList.drop (b + 1)) (b + 1) x.2))).holds Q Qp := h
      rw [hm] at h
      obtain ⟨b', h1, h2, h3, h4, h5⟩ := ih (b + 1) (by omega) (by omega) h
      refine ⟨b', by omega, h2, h3, fun k k1 k2 o hk => ?_, h5⟩
      by_cases e : k = b
      · subst e; rw [ho] at hk; cases hk; exact hm
      · exact h4 k (by omega) k2 o hk
end

/-- While a region draws: which are done, up to which of those that write. -/
structure D2 (N : NB) (n : Nat) (ds : List Deferred) (ops : Array Oper) (mk : Nat → Nat) (st0 : Tmps) (V : DR) (φ0 : Phi) (M0 : Mem) (w0 : World) (listed : Nat → Prop) (b : Nat) (φ : Phi) (M : Mem) (w : World) (a : Act) : Prop where
  hb : b = ops.size ∨ ∃ o, ops[b]? = some o ∧ mvK o = false
  hle : b ≤ ops.size
  rep : Rep N φ M w
  ext : Ext φ0 M0 w0 φ M w
  val : ∀ k, listed k → ∀ (o : Oper) (t : Tmp), ops[k]? = some o → o.dst = some t → AVRel φ (V k).1 (a.tmps.getD t undef)
  init : ∀ (t : Tmp), (∀ (k : Nat) (o : Oper), listed k → ops[k]? = some o → o.dst ≠ some t) → AVRel φ (st0 t) (a.tmps.getD t undef)
  size : a.tmps.size = n
  defers : a.defers = ds
  cl : ∀ k, listed k → ∀ i, Nat.testBit (mk k) i = true → listed i
  wr : ∀ k o, ops[k]? = some o → mvK o = false → (listed k ↔ k < b)
theorem D2.tmps {N : NB} {n : Nat} {ds : List Deferred} {ops : Array Oper} {mk : Nat → Nat} {st0 : Tmps} {V : DR} {φ0 φ : Phi} {M0 M : Mem} {w0 w : World} {listed : Nat → Prop} {b : Nat} {a : Act} (h : D2 N n ds ops mk st0 V φ0 M0 w0 listed b φ M w a)
    {anc : Nat} (hanc : ∀ i, i < ops.size → Nat.testBit anc i = true → listed i) : TmpsRel φ (stA V st0 anc ops.toList 0) a.tmps := by
  intro t
  rcases stA_spec (R := V) (st0 := st0) (anc := anc) ops.toList 0 t with ⟨i, o, ho, hdt, hv⟩ | ⟨hno, hv⟩
  · rw [hv]
    simp only [Nat.zero_add]
    split
    · rename_i hb
      have ho' : ops[i]? = some o := by simpa using ho
      exact h.val i (hanc i (Array.getElem?_eq_some_iff.1 ho').1 hb) o t ho' hdt
    · exact .top _
  · rw [hv]
    exact h.init t fun k o _ hk => hno k o (by simpa using hk)
theorem D2.tmpsJ {N : NB} {n : Nat} {ds : List Deferred} {ops : Array Oper} {mk : Nat → Nat} {st0 : Tmps} {V : DR} {φ0 φ : Phi} {M0 M : Mem} {w0 w : World} {listed : Nat → Prop} {b : Nat} {a : Act} (h : D2 N n ds ops mk st0 V φ0 M0 w0 listed b φ M w a)
    {j : Nat} (hanc : ∀ i, i < ops.size → Nat.testBit (mk j) i = true → listed i) (hnl : ¬ listed j) : TmpsRel φ (stA V st0 (mk j) (effL mk j ops.toList 0) 0) a.tmps := by
  intro t
  rcases stJ_spec (R := V) (st0 := st0) (anc := mk j) (mk := mk) (j := j) ops.toList t with ⟨i, o, ho, hdt, hv⟩ | ⟨hno, hv⟩
  · rw [hv]
    split
    · rename_i hb
      have ho' : ops[i]? = some o := by simpa using ho
      exact h.val i (hanc i (Array.getElem?_eq_some_iff.1 ho').1 hb) o t ho' hdt
    · exact .top _
  · rw [hv]
    exact h.init t fun k o hk ho hot => hnl (h.cl k hk j (hno k o (by simpa using ho) hot))
/-- One more is done. -/
theorem D2.more {N : NB} {n : Nat} {ds : List Deferred} {ops : Array Oper} {mk : Nat → Nat} {st0 : Tmps} {V : DR} {φ0 φ φ' : Phi} {M0 M M' : Mem} {w0 w w' : World} {listed : Nat → Prop} {b b' : Nat} {a : Act} (h : D2 N n ds ops mk st0 V φ0 M0 w0 listed b φ M w a)
    (hd : dstsOk ops.toList = true) {i : Nat} {o : Oper} {v : Value} (ho : ops[i]? = some o) (hlt : ∀ t, o.dst = some t → t < n) (hni : ¬ listed i) (hanc : ∀ k, Nat.testBit (mk i) k = true → listed k)
    (hr : Rep N φ' M' w') (he : Ext φ M w φ' M' w') (hv : AVRel φ' (V i).1 v) (hb' : b' = ops.size ∨ ∃ o, ops[b']? = some o ∧ mvK o = false) (hle' : b' ≤ ops.size)
    (hwr : ∀ k p, ops[k]? = some p → mvK p = false → ((listed k ∨ k = i) ↔ k < b')) : D2 N n ds ops mk st0 V φ0 M0 w0 (fun k => listed k ∨ k = i) b' φ' M' w' (a.put o.dst v) where
  hb := hb'
  hle := hle'
  rep := hr
  ext := h.ext.trans he
  val := by
    intro k hk p t hp hpt
    by_cases e : k = i
    · subst e
      rw [ho] at hp; cases hp
      rw [hpt, put_at (by rw [h.size]; exact hlt t hpt)]
      exact hv
    · have hlk : listed k := hk.resolve_right e
      have hne : o.dst ≠ some t := fun hot => e (dstsOk_ne hd k i p o t (by simpa using hp) (by simpa using ho) hpt hot)
      rw [put_ne hne]
      exact (h.val k hlk p t hp hpt).mono he.phi
  init := by
    intro t ht
    rw [put_ne (ht i o (.inr rfl) ho)]
    exact (h.init t fun k p hk hp => ht k p (.inl hk) hp).mono he.phi
  size := by rw [put_size]; exact h.size
  defers := by rw [put_defers]; exact h.defers
  cl := by
    intro k hk j hj
    rcases hk with hk | rfl
    · exact .inl (h.cl k hk j hj)
    · exact .inl (hanc j hj)
  wr := hwr
theorem rep_locked {N : NB} {φ φ' : Phi} {M M' : Mem} {w w' : World} (hr : Rep N φ M w) (he : Ext φ (lockAll M) w φ' M' w') : Rep N φ M w' ∧ Ext φ M w φ M w' := by
  have hk : ∀ b, b < w.heap.size → w'.heap[b]? = w.heap[b]? := fun b hb => he.keep b hb fun id p hid ho _ => by
    have hid : M.next ≤ id := hid
    have ho : isOwn (M.get id) := ho
    rw [(hr.fresh id hid).1] at ho
    exact ho.elim
  exact ⟨hr.same hk he.size, ⟨.refl _, fun _ _ => rfl, Nat.le_refl _, rfl, he.os, he.tape, he.output, he.size, fun b hb _ => hk b hb, fun id p h h' _ => ⟨id, p, h, h', rfl, fun h => h⟩⟩⟩

section
variable {P : Program} {tt : TT} {callF : FuncId → List AV → Mem → T (AV × Mem)} {N : NB} {n : Nat} {ds : List Deferred} {ops : Array Oper} {mk : Nat → Nat} {st0 : Tmps} {V : DR} {φ0 : Phi} {M0 : Mem} {w0 : World} (tok : TTok P tt) (hc : CallsOk P N callF)
include tok hc
theorem d2_any (hall : ∀ o ∈ ops.toList, OpOk P n o) (hm : MaskOk ops.toList mk) (hd : dstsOk ops.toList = true) (htot : totA mk ops.toList ops.toList 0 = true) {full : Nat} {Q : Tmps × Mem → Prop} {Qp : AV → Mem → Prop} {QX : Exit → Act → World → Prop}
    (hq : ∀ φ' M' w' a', Q (stA V st0 full ops.toList 0, M') → StOk N n ds φ' M' w' (stA V st0 full ops.toList 0) a' → Ext φ0 M0 w0 φ' M' w' → QX .normal a' w') :
    ∀ (fuel : Nat) (listed : Array Bool) (a : Act) (w : World), listed.size = ops.size → unl ops.size listed = fuel →
      (∃ b φ M, D2 N n ds ops mk st0 V φ0 M0 w0 (fun k => listed.getD k false = true) b φ M w a ∧ (chkD P tt callF ops.toList mk st0 V (ops.toList.drop b) b M).holds (fun M' => Q (stA V st0 full ops.toList 0, M')) Qp) →
      wpAny P .any ops QX fuel listed a w := by
  have hend : ∀ (listed : Array Bool) (a : Act) (w : World), listed.size = ops.size → (∀ k, k < ops.size → listed.getD k false = true) →
      (∃ b φ M, D2 N n ds ops mk st0 V φ0 M0 w0 (fun k => listed.getD k false = true) b φ M w a ∧ (chkD P tt callF ops.toList mk st0 V (ops.toList.drop b) b M).holds (fun M' => Q (stA V st0 full ops.toList 0, M')) Qp) → QX .normal a w := by
    rintro listed a w hsz hallL ⟨b, φ, M, h, hchk⟩
    have hbs : b = ops.size := by
      rcases h.hb with e | ⟨o, ho, hmv⟩
      · exact e
      · have hlt := (Array.getElem?_eq_some_iff.1 ho).1
        have := (h.wr b o ho hmv).1 (hallL b hlt)
        omega
    subst hbs
    have hdrop : ops.toList.drop ops.size = [] := by simp
    rw [hdrop] at hchk
    have hchk : ((stageD P tt callF ops.toList mk st0 V ops.size M ops.toList 0).bind fun _ => .ret M).holds (fun M' => Q (stA V st0 full ops.toList 0, M')) Qp := hchk
    rw [T.holds_bind] at hchk
    have hQ := (stage_ok _ hchk).1
    exact hq φ M w a hQ ⟨h.rep, h.tmps (fun i hi _ => hallL i hi), h.size, h.defers⟩ h.ext
  intro fuel
  induction fuel with
  | zero =>
    intro listed a w hsz hu hinv
    have hallL := unl_zero hu
    have hr : Region.ready .any ops listed = [] := by
      rw [List.eq_nil_iff_forall_not_mem]
      intro i hi
      rw [mem_ready] at hi
      obtain ⟨h1, o, ho, _⟩ := hi
      have hlt : i < ops.size := (Array.getElem?_eq_some_iff.1 ho).1
      rw [hallL i hlt] at h1; cases h1
    exact ⟨hr, hend listed a w hsz (fun k hk => by rw [← getD_tf hsz hk]; exact hallL k hk) hinv⟩
  | succ fuel ih =>
    intro listed a w hsz hu hinv
    have hfirst : ∀ i, i < ops.size → listed.getD i false = false → (∀ k, k < i → listed.getD k false = true) → i ∈ Region.ready .any ops listed := by
      intro i hi hni hlt
      rw [mem_ready]
      have ho : ops[i]? = some ops[i] := Array.getElem?_eq_getElem hi
      refine ⟨by rw [getD_tf hsz hi]; exact hni, _, ho, fun e he hb => hlt e.on ?_⟩
      exact hm.lt i e.on (hm.edge i _ (by simpa using ho) e he hb)
    have hleast : ∀ k, listed.getD k false = false → ∃ i, i ≤ k ∧ listed.getD i false = false ∧ ∀ q, q < i → listed.getD q false = true := by
      intro k
      induction k using Nat.strongRecOn with
      | _ k ihk =>
        intro hk
        by_cases hex : ∃ q, q < k ∧ listed.getD q false = false
        · obtain ⟨q, hq1, hq2⟩ := hex
          obtain ⟨i, h1, h2, h3⟩ := ihk q hq1 hq2
          exact ⟨i, by omega, h2, h3⟩
        · refine ⟨k, Nat.le_refl _, hk, fun q hq => ?_⟩
          cases hb : listed.getD q false with
          | true => rfl
          | false => exact (hex ⟨q, hq, hb⟩).elim
    have hset : ∀ i, i < ops.size → ∀ k, (listed.setIfInBounds i true).getD k false = true ↔ listed.getD k false = true ∨ k = i := by
      intro i hi k
      by_cases e : k = i
      · subst e; simp [hsz, hi]
      · rw [getD_set_ne false (Ne.symm e)]; simp [e]
    refine ⟨fun hr => ?_, fun i hi => ?_⟩
    · refine hend listed a w hsz (fun k hk => ?_) hinv
      cases hb : listed.getD k false with
      | true => rfl
      | false =>
        obtain ⟨i, h1, h2, h3⟩ := hleast k hb
        have := hfirst i (by omega) h2 h3
        rw [hr] at this; cases this
    · obtain ⟨b, φ, M, h, hchk⟩ := hinv
      have hi' := hi
      rw [mem_ready] at hi'
      obtain ⟨hni, o, ho, hed⟩ := hi'
      have hlt : i < ops.size := (Array.getElem?_eq_some_iff.1 ho).1
      rw [getD_tf hsz hlt] at hni
      have hnl : ¬ listed.getD i false = true := by rw [hni]; simp
      have hanc : ∀ k, Nat.testBit (mk i) k = true → listed.getD k false = true := by
        intro k hk
        obtain ⟨e, hee, hb, hh⟩ := hm.via i o (by simpa using ho) k hk
        rcases hh with hh | rfl
        · exact h.cl _ (hed e hee hb) k hh
        · exact hed e hee hb
      have hT := h.tmpsJ (j := i) (fun k _ hk => hanc k hk) hnl
      have hoo := hall o (by rw [Array.mem_toList_iff]; exact Array.mem_of_getElem? ho)
      have hfun : (fun k => (listed.setIfInBounds i true).getD k false = true) = fun k => listed.getD k false = true ∨ k = i := by
        funext k; exact propext (hset i hlt k)
      have hfuel : unl ops.size (listed.setIfInBounds i true) = fuel := by
        have := unl_set hlt hsz (by rw [getD_tf hsz hlt]; exact hni); omega
      have hol : ops.toList[i]? = some o := by simpa using ho
      -- what is known at this time
      have hstage : (∃ Q' : Bool → Prop, (stageD P tt callF ops.toList mk st0 V b M ops.toList 0).holds Q' Qp) ∧
          (∀ ob, ops[b]? = some ob → mvK ob = false → (drawOp P tt callF ops.toList M (stA V st0 (mk b) (effL mk b ops.toList 0) 0) ob).holds (fun x => (T.ck (eqAV x.1 (V b).1) (chkD P tt callF ops.toList mk st0 V (ops.toList.drop (b + 1)) (b + 1) x.2)).holds (fun M' => Q (stA V st0 full ops.toList 0, M')) Qp) (fun _ _ => False)) := by
        rcases h.hb with e | ⟨ob, hob, hmv⟩
        · rw [show ops.toList.drop b = [] by rw [e]; simp] at hchk
          have hchk : ((stageD P tt callF ops.toList mk st0 V b M ops.toList 0).bind fun _ => .ret M).holds (fun M' => Q (stA V st0 full ops.toList 0, M')) Qp := hchk
          rw [T.holds_bind] at hchk
          refine ⟨⟨_, hchk⟩, fun ob hob => ?_⟩
          have := (Array.getElem?_eq_some_iff.1 hob).1
          omega
        · have hbl := (Array.getElem?_eq_some_iff.1 hob).1
          have hl : b < ops.toList.length := by simpa using hbl
          rw [List.drop_eq_getElem_cons hl] at hchk
          have e : ops.toList[b] = ob := by
            have := (Array.getElem?_eq_some_iff.1 hob).2
            simpa using this
          rw [e] at hchk
          have hchk : (bif2 (mvK ob) (chkD P tt callF ops.toList mk st0 V (ops.toList.drop (b + 1)) (b + 1) M) ((stageD P tt callF ops.toList mk st0 V b M ops.toList 0).bind fun _ => (drawOp P tt callF ops.toList M (stA V st0 (mk b) (effL mk b ops.toList 0) 0) ob).bind fun x => .ck (eqAV x.1 (V b).1) (chkD P tt callF ops.toList mk st0 V (ops.toList.drop (b + 1)) (b + 1) x.2))).holds (fun M' => Q (stA V st0 full ops.toList 0, M')) Qp := hchk
          rw [hmv] at hchk
          have hchk : ((stageD P tt callF ops.toList mk st0 V b M ops.toList 0).bind fun _ => (drawOp P tt callF ops.toList M (stA V st0 (mk b) (effL mk b ops.toList 0) 0) ob).bind fun x => .ck (eqAV x.1 (V b).1) (chkD P tt callF ops.toList mk st0 V (ops.toList.drop (b + 1)) (b + 1) x.2)).holds (fun M' => Q (stA V st0 full ops.toList 0, M')) Qp := hchk
          rw [T.holds_bind] at hchk
          refine ⟨⟨_, hchk⟩, fun ob' hob' _ => ?_⟩
          rw [hob] at hob'; cases hob'
          have h2 := (stage_ok _ hchk).1
          rw [T.holds_bind] at h2
          exact drawOp_nopan h2
      obtain ⟨⟨Q', hst⟩, hnext⟩ := hstage
      cases hmo : mvK o with
      | true =>
        have hw : inW mk b i ops.toList 0 = true := by
          refine inW_ok _ fun k p hp hmp => ?_
          simp only [Nat.zero_add]
          have hp' : ops[k]? = some p := by simpa using hp
          have hwr := h.wr k p hp' hmp
          refine ⟨fun hk => ?_, fun hk => ?_⟩
          · cases hbt : Nat.testBit (mk k) i with
            | false => rfl
            | true => exact absurd (h.cl k (hwr.2 hk) i hbt) hnl
          · cases hbt : Nat.testBit (mk i) k with
            | false => rfl
            | true => exact absurd (hwr.1 (hanc k hbt)) hk
        have hev := (stage_ok _ hst).2 i o hol hmo (by rw [Nat.zero_add]; exact hw)
        rw [Nat.zero_add] at hev
        refine d2_step tok hc hall (A := lockAll M) (show Rep N φ (lockAll M) w from ⟨h.rep.objs, h.rep.sep, h.rep.high, h.rep.fresh, h.rep.size⟩) hT h.size ho hev fun v w' hg => ?_
        obtain ⟨φ', x, M', ⟨e1, e2⟩, hx, hr', he⟩ := hg
        obtain ⟨r1, r2⟩ := rep_locked h.rep he
        refine ih _ _ w' (by simpa using hsz) hfuel ⟨b, φ, M, ?_, hchk⟩
        rw [hfun]
        have hx' : AVRel φ (V i).1 v := by
          have := okV_rel e2 hx (fun id hid => he.phi0 id hid)
          rw [← eqAV_ok e1]; exact this
        refine h.more hd ho hoo.1 hnl hanc r1 r2 hx' h.hb h.hle fun k p hp hmp => ?_
        have := h.wr k p hp hmp
        constructor
        · rintro (hk | rfl)
          · exact this.1 hk
          · rw [ho] at hp; cases hp; rw [hmo] at hmp; cases hmp
        · exact fun hk => .inl (this.2 hk)
      | false =>
        have hib : i = b := by
          have hwi := h.wr i o ho hmo
          have h1 : ¬ i < b := fun hh => hnl (hwi.2 hh)
          rcases h.hb with e | ⟨ob, hob, hmv⟩
          · omega
          · rcases Nat.lt_or_ge b i with h2 | h2
            · have ht := totA_ok _ htot hol hmo
              rw [Nat.zero_add] at ht
              have hbt := totD_ok _ ht (k := b) (o := ob) (by simpa using hob) hmv (by omega)
              rw [Nat.zero_add] at hbt
              have := (h.wr b ob hob hmv).1 (hanc b hbt)
              omega
            · omega
        subst hib
        have hev := hnext o ho hmo
        refine d2_step tok hc hall h.rep hT h.size ho hev fun v w' hg => ?_
        obtain ⟨φ', x, M', hck, hx, hr', he⟩ := hg
        obtain ⟨e1, hrest⟩ := ck_ok hck
        obtain ⟨b', k1, k2, k3, k4, k5⟩ := nextB (ops.size - (i + 1)) (i + 1) rfl (by omega) hrest
        refine ih _ _ w' (by simpa using hsz) hfuel ⟨b', φ', M', ?_, k5⟩
        rw [hfun]
        have hx' : AVRel φ' (V i).1 v := by rw [← eqAV_ok e1]; exact hx
        refine h.more hd ho hoo.1 hnl hanc hr' he hx' k3 k2 fun k p hp hmp => ?_
        have := h.wr k p hp hmp
        constructor
        · rintro (hk | rfl)
          · have := this.1 hk; omega
          · omega
        · intro hk
          rcases Nat.lt_trichotomy k i with h1 | h1 | h1
          · exact .inl (this.2 h1)
          · exact .inr h1
          · have := k4 k (by omega) hk p hp; rw [hmp] at this; cases this
omit tok hc in
theorem gsD_nopan {all : List Oper} {Q : DR → Prop} {Qp : AV → Mem → Prop} (l : List Oper) : ∀ {j : Nat} {M : Mem} {V : DR} (_ : (gsD P tt callF all mk st0 l j M V).holds Q Qp), (gsD P tt callF all mk st0 l j M V).holds Q (fun _ _ => False) := by
  induction l with
  | nil => intro j M V h; exact h
  | cons o l ih =>
    intro j M V h
    have h : ((drawOp P tt callF all M (stA V st0 (mk j) (effL mk j all 0) 0) o).bind fun x => gsD P tt callF all mk st0 l (j + 1) x.2 (upd V j (x.1, x.2))).holds Q Qp := h
    show ((drawOp P tt callF all M (stA V st0 (mk j) (effL mk j all 0) 0) o).bind fun x => gsD P tt callF all mk st0 l (j + 1) x.2 (upd V j (x.1, x.2))).holds Q (fun _ _ => False)
    rw [T.holds_bind] at h ⊢
    exact T.holds_mono (drawOp_nopan h) (fun x hx => ih hx) (fun _ _ hf => hf)
theorem evDraw2_ok (hmix : P.follows .mixedOrders = true) (hall : ∀ o ∈ ops.toList, OpOk P n o) {Q : Tmps × Mem → Prop} {Qp : AV → Mem → Prop} {QX : Exit → Act → World → Prop} {id : Nat} {a : Act} {w : World} {φ : Phi} {st : Tmps} {M : Mem}
    (h : (evDraw2 P tt callF ops.toList st M).holds Q Qp) (hs : StOk N n ds φ M w st a)
    (hq : ∀ φ' M' w' st' a', Q (st', M') → StOk N n ds φ' M' w' st' a' → Ext φ M w φ' M' w' → QX .normal a' w') : (Code.region id ops true).wp P QX a w := by
  obtain ⟨hb, h⟩ := ck_ok h
  rw [masksK_eq] at h
  obtain ⟨he, hb⟩ := Bool.and_eq_true_iff.1 hb
  obtain ⟨hd, _⟩ := Bool.and_eq_true_iff.1 hb
  have hm := maskOk he
  obtain ⟨htot, h⟩ := ck_ok h
  rw [T.holds_bind] at h
  obtain ⟨V, hV, _⟩ := T.leaf (gsD_nopan _ h)
  rw [T.holds_bind] at hV
  have hno : ∀ k, ¬ (Array.replicate ops.size false).getD k false = true := by
    intro k
    by_cases hk : k < ops.size <;> simp [Array.getD_eq_getD_getElem?, hk]
  obtain ⟨b, k1, k2, k3, k4, k5⟩ := nextB (P := P) (tt := tt) (callF := callF) (mk := masks ops.toList 0 fun _ => 0) (st0 := st) (V := V) (ops := ops) (M := M) (ops.size - 0) 0 rfl (Nat.zero_le _) (by rw [List.drop_zero]; exact hV)
  refine wp_region_any hmix (d2_any (Q := Q) (Qp := Qp) (ds := ds) (M0 := M) (st0 := st) (φ0 := φ) (w0 := w.drew) (V := V) (mk := masks ops.toList 0 fun _ => 0) (full := Nat.sub (Nat.pow 2 ops.toList.length) 1) tok hc hall hm hd htot ?_ ops.size _ a _ (by simp) (unl_init _) ⟨b, φ, M, ?_, k5⟩)
  · intro φ' M' w' a' h1 h2 h3
    exact hq φ' M' w' _ a' h1 h2 ((Ext.draw φ M w).trans h3)
  · refine ⟨k3, k2, hs.rep.draw, .refl _ _ _, fun k hk => absurd hk (hno k), fun t _ => hs.tmps t, hs.size, hs.defers, fun k hk => absurd hk (hno k), fun k o ho hmo => ⟨fun hk => absurd hk (hno k), fun hk => ?_⟩⟩
    have := k4 k (Nat.zero_le _) hk o ho
    rw [hmo] at this; cases this
theorem evDraw2V_any (hall : ∀ o ∈ ops.toList, OpOk P n o) {Q : DR × Mem → Prop} {Qp : AV → Mem → Prop} {QX : Exit → Act → World → Prop} {a : Act} {w : World} {φ : Phi} {st : Tmps} {M : Mem}
    (h : (evDraw2V P tt callF ops.toList st M).holds Q Qp) (hs : StOk N n ds φ M w st a)
    (hq : ∀ φ' M' w' V a', Q (V, M') → StOk N n ds φ' M' w' (stA V st (Nat.sub (Nat.pow 2 ops.toList.length) 1) ops.toList 0) a' → Ext φ M w φ' M' w' → QX .normal a' w') : wpAny P .any ops QX ops.size (Array.replicate ops.size false) a w.drew := by
  obtain ⟨hb, h⟩ := ck_ok h
  rw [masksK_eq] at h
  obtain ⟨he, hb⟩ := Bool.and_eq_true_iff.1 hb
  obtain ⟨hd, _⟩ := Bool.and_eq_true_iff.1 hb
  have hm := maskOk he
  obtain ⟨htot, h⟩ := ck_ok h
  rw [T.holds_bind] at h
  obtain ⟨V, hV, _⟩ := T.leaf (gsD_nopan _ h)
  rw [T.holds_bind] at hV
  have hno : ∀ k, ¬ (Array.replicate ops.size false).getD k false = true := by
    intro k
    by_cases hk : k < ops.size <;> simp [Array.getD_eq_getD_getElem?, hk]
  obtain ⟨b, k1, k2, k3, k4, k5⟩ := nextB (P := P) (tt := tt) (callF := callF) (mk := masks ops.toList 0 fun _ => 0) (st0 := st) (V := V) (ops := ops) (M := M) (ops.size - 0) 0 rfl (Nat.zero_le _) (by rw [List.drop_zero]; exact hV)
  refine (d2_any (Q := fun x => Q (V, x.2)) (Qp := Qp) (ds := ds) (M0 := M) (st0 := st) (φ0 := φ) (w0 := w.drew) (V := V) (mk := masks ops.toList 0 fun _ => 0) (full := Nat.sub (Nat.pow 2 ops.toList.length) 1) tok hc hall hm hd htot ?_ ops.size _ a _ (by simp) (unl_init _) ⟨b, φ, M, ?_, k5⟩)
  · intro φ' M' w' a' h1 h2 h3
    exact hq φ' M' w' V a' h1 h2 ((Ext.draw φ M w).trans h3)
  · refine ⟨k3, k2, hs.rep.draw, .refl _ _ _, fun k hk => absurd hk (hno k), fun t _ => hs.tmps t, hs.size, hs.defers, fun k hk => absurd hk (hno k), fun k o ho hmo => ⟨fun hk => absurd hk (hno k), fun hk => ?_⟩⟩
    have := k4 k (Nat.zero_le _) hk o ho
    rw [hmo] at this; cases this
end
end Go.Eng

set_option autoImplicit false
namespace Go.Eng
open Go Go.RowKit
/-! ## A region that draws its order: two operations in either order -/
theorem npanic {α : Type} {P : Program} {w w' : World} {n : α} (h : (runtimePanic .nilDeref : Sem α).run P w = .ok n w') : False := by
  unfold runtimePanic at h
  simp [goPanic, Sem.run, Result.andThen, program] at h
theorem tv {P : Program} {w w' : World} {n : Next} {s : Sem Value} (h : (do pure (.value (← s)) : Sem Next).run P w = .ok n w') : ∃ v, n = .value v := by
  simp only [Sem.run_bind, Sem.run_pure] at h
  generalize s.run P w = r at h
  cases r <;> simp [Result.andThen] at h
  exact ⟨_, h.1.symm⟩
theorem tu {P : Program} {w w' : World} {n : Next} {s : Sem Unit} (h : (do s; pure .skip : Sem Next).run P w = .ok n w') : n = .skip := by
  simp only [Sem.run_bind, Sem.run_pure] at h
  generalize s.run P w = r at h
  cases r <;> simp [Result.andThen] at h
  exact h.1.symm
theorem tellsV_ok {P : Program} {ρ : Operand → Value} {o : Oper} {w w' : World} {n : Next} (h : (execOp ρ o).run P w = .ok n w') (hc : tellsV o.op = true) : (∃ v, n = .value v) ∨ n = .skip := by
  unfold execOp at h
  cases ho : o.op <;> rw [ho] at h hc <;> simp only at h <;> first
    | (cases hc; done)
    | exact .inl (tv h)
    | exact .inr (tu h)
    | skip
  case move x => simp only [Sem.run_pure] at h; cases h; exact .inl ⟨_, rfl⟩
  case assign x => simp only [Sem.run_pure] at h; cases h; exact .inl ⟨_, rfl⟩
  case pick c a b =>
    simp only [Sem.run_bind, Sem.run_pure] at h
    generalize Sem.run P (asBool (ρ c)) w = r at h
    cases r <;> simp [Result.andThen] at h
    exact .inl ⟨_, h.1.symm⟩
  case nilCheck x =>
    split at h
    case h_4 =>
      split at h
      · exact (npanic h).elim
      · rename_i a b _ _ t z name _
        simp only [Sem.run_bind] at h
        generalize Sem.run P program w = r0 at h
        cases r0 with
        | halt e w0 => cases h
        | ok p w0 =>
          simp only [Result.andThen_ok] at h
          generalize Sem.run P (nilAhead _ _ _ _) _ = r at h
          cases r with
          | halt e w0 => cases h
          | ok q w1 =>
            simp only [Result.andThen_ok] at h
            split at h
            · simp only [Sem.run_bind] at h
              generalize Sem.run P (unsupported _) _ = r2 at h
              cases r2 with
              | halt e w0 => cases h
              | ok u w2 => cases h; exact .inl ⟨_, rfl⟩
            · cases h; exact .inl ⟨_, rfl⟩
      · cases h; exact .inl ⟨_, rfl⟩
    case h_5 => cases h; exact .inl ⟨_, rfl⟩
    all_goals exact (npanic h).elim

theorem wpOp_and {P : Program} {ops : Array Oper} {Q : Exit → Act → World → Prop} {i : Nat} {K1 K2 : Act → World → Prop} {a : Act} {w : World} (ht : ∀ o, ops[i]? = some o → tellsV o.op = true)
    (h1 : wpOp P ops Q i K1 a w) (h2 : wpOp P ops Q i K2 a w) : wpOp P ops Q i (fun a w => K1 a w ∧ K2 a w) a w := by
  unfold wpOp at *
  cases ho : ops[i]? with
  | none => simp only [ho] at h1 h2 ⊢; exact ⟨h1, h2⟩
  | some o =>
    simp only [ho] at h1 h2 ⊢
    split
    · rename_i hw
      simp only [hw, if_true] at h1 h2
      rcases h1 with h1 | h1
      · rcases h2 with h2 | h2
        · left
          unfold Oper.wp at *
          generalize hr : (execOp a.eval o).run P w = r at *
          cases r with
          | ok n w' =>
            rcases tellsV_ok hr (ht o ho) with ⟨v, rfl⟩ | rfl
            · exact ⟨h1, h2⟩
            · exact ⟨h1, h2⟩
          | halt x w' => cases x <;> simp only [Oper.upon] at h1 ⊢ <;> exact h1
        · exact .inr h2
      · exact .inr h1
    · rename_i hw
      simp only [hw] at h1 h2
      exact ⟨h1, h2⟩

theorem addE_get (i j : Nat) (l : List Oper) : ∀ (k p : Nat), (addE i j l k)[p]? = (l[p]?).map fun o => if k + p = i then { o with after := o.after.push ⟨j, .data⟩ } else o := by
  induction l with
  | nil => intro k p; rfl
  | cons o l ih =>
    intro k p
    show (bif2 (Nat.beq k i) { o with after := o.after.push ⟨j, .data⟩ } o :: addE i j l (k + 1))[p]? = _
    rw [bif2_eq]
    cases p with
    | zero =>
      simp only [List.getElem?_cons_zero, Option.map_some, Nat.add_zero, Option.some.injEq]
      by_cases h : k = i
      · subst h; simp
      · rw [if_neg (by simpa using h), if_neg h]
    | succ p => simp only [List.getElem?_cons_succ]; rw [ih, show k + 1 + p = k + (p + 1) by omega]
theorem addE_arr (i j : Nat) (ops : Array Oper) (p : Nat) : (addE i j ops.toList 0).toArray[p]? = (ops[p]?).map fun o => if p = i then { o with after := o.after.push ⟨j, .data⟩ } else o := by
  have := addE_get i j ops.toList 0 p
  simpa using this
theorem addE_len (i j : Nat) (l : List Oper) : ∀ k, (addE i j l k).length = l.length := by
  induction l with
  | nil => intro k; rfl
  | cons o l ih => intro k; show (addE i j l (k + 1)).length + 1 = _; rw [ih]; rfl
theorem yielded_addE (i j : Nat) (ops : Array Oper) (tmps : Array Value) : yielded (addE i j ops.toList 0).toArray tmps = yielded ops tmps := by
  funext p
  unfold yielded
  rw [addE_arr]
  cases ops[p]? with
  | none => rfl
  | some o =>
    by_cases hp : p = i
    · simp only [Option.map_some, Option.bind_some, if_pos hp]
    · simp only [Option.map_some, Option.bind_some, if_neg hp]
theorem wpOp_addE {P : Program} {i j : Nat} {ops : Array Oper} {Q : Exit → Act → World → Prop} {k : Nat} {K : Act → World → Prop} {a : Act} {w : World} : wpOp P (addE i j ops.toList 0).toArray Q k K a w = wpOp P ops Q k K a w := by
  unfold wpOp
  rw [addE_arr, yielded_addE]
  cases ops[k]? with
  | none => rfl
  | some o =>
    by_cases hk : k = i
    · simp only [Option.map_some, if_pos hk]; rfl
    · simp only [Option.map_some, if_neg hk]
theorem ready_addE {i j : Nat} {ops : Array Oper} {listed : Array Bool} {k : Nat} : k ∈ Region.ready .any (addE i j ops.toList 0).toArray listed ↔ k ∈ Region.ready .any ops listed ∧ (k = i → listed.getD j false = true) := by
  rw [mem_ready, mem_ready, addE_arr]
  constructor
  · rintro ⟨h0, o, ho, hall⟩
    rw [Option.map_eq_some_iff] at ho
    obtain ⟨p, hp, he⟩ := ho
    split at he
    · rename_i hk
      subst he
      refine ⟨⟨h0, p, hp, fun e he hb => hall e (by simp [he]) hb⟩, fun _ => hall ⟨j, .data⟩ (by simp) rfl⟩
    · rename_i hk
      subst he
      exact ⟨⟨h0, p, hp, hall⟩, fun e => absurd e hk⟩
  · rintro ⟨⟨h0, o, ho, hall⟩, hi⟩
    refine ⟨h0, _, by rw [ho]; rfl, ?_⟩
    intro e he hb
    split at he
    · rename_i hk
      simp only [Array.mem_push] at he
      rcases he with he | rfl
      · exact hall e he hb
      · exact hi hk
    · exact hall e he hb

/-- What waits for one of two, in either order. -/
theorem wpAny_two {P : Program} {i j : Nat} {ops : Array Oper} {Q : Exit → Act → World → Prop} (hij : i ≠ j)
    (hsafe : ∀ k o, ops[k]? = some o → k ≠ i → k ≠ j → tellsV o.op = true ∨ ∃ e ∈ o.after, Region.binds .any e = true ∧ (e.on = i ∨ e.on = j)) :
    ∀ (fuel : Nat) (listed : Array Bool) (a : Act) (w : World), listed.size = ops.size →
      (listed.getD i false = false → listed.getD j false = false → wpAny P .any (addE j i ops.toList 0).toArray Q fuel listed a w ∧ wpAny P .any (addE i j ops.toList 0).toArray Q fuel listed a w) →
      (listed.getD i false = true → listed.getD j false = false → wpAny P .any (addE j i ops.toList 0).toArray Q fuel listed a w) →
      (listed.getD i false = false → listed.getD j false = true → wpAny P .any (addE i j ops.toList 0).toArray Q fuel listed a w) →
      (listed.getD i false = true → listed.getD j false = true → wpAny P .any (addE j i ops.toList 0).toArray Q fuel listed a w ∨ wpAny P .any (addE i j ops.toList 0).toArray Q fuel listed a w) →
      wpAny P .any ops Q fuel listed a w := by
  intro fuel
  have avail : ∀ listed : Array Bool, listed.size = ops.size → ∀ (F : (Array Oper) → Prop), 
      (listed.getD i false = false → listed.getD j false = false → F (addE j i ops.toList 0).toArray ∧ F (addE i j ops.toList 0).toArray) →
      (listed.getD i false = true → listed.getD j false = false → F (addE j i ops.toList 0).toArray) →
      (listed.getD i false = false → listed.getD j false = true → F (addE i j ops.toList 0).toArray) →
      (listed.getD i false = true → listed.getD j false = true → F (addE j i ops.toList 0).toArray ∨ F (addE i j ops.toList 0).toArray) → ∃ x y, F (addE x y ops.toList 0).toArray := by
    intro listed _ F h1 h2 h3 h4
    cases hi : listed.getD i false <;> cases hj : listed.getD j false
    · exact ⟨_, _, (h1 hi hj).1⟩
    · exact ⟨_, _, h3 hi hj⟩
    · exact ⟨_, _, h2 hi hj⟩
    · rcases h4 hi hj with h | h <;> exact ⟨_, _, h⟩
  induction fuel with
  | zero =>
    intro listed a w hsz h1 h2 h3 h4
    have emp : ∀ x y, Region.ready .any (addE x y ops.toList 0).toArray listed = [] → ∀ k ∈ Region.ready .any ops listed, k = x ∧ listed.getD y false = false := by
      intro x y he k hk
      by_cases hkx : k = x
      · refine ⟨hkx, ?_⟩
        cases hy : listed.getD y false with
        | false => rfl
        | true => exact absurd (ready_addE.2 ⟨hk, fun _ => hy⟩) (by rw [he]; simp)
      · exact absurd (ready_addE.2 ⟨hk, fun e => absurd e hkx⟩) (by rw [he]; simp)
    have hnil : Region.ready .any ops listed = [] := by
      rw [List.eq_nil_iff_forall_not_mem]
      intro k hk
      cases hi : listed.getD i false <;> cases hj : listed.getD j false
      · obtain ⟨a1, a2⟩ := h1 hi hj
        obtain ⟨e1, _⟩ := emp j i a1.1 k hk
        obtain ⟨e2, _⟩ := emp i j a2.1 k hk
        exact hij (e2.symm.trans e1)
      · obtain ⟨_, e2⟩ := emp i j (h3 hi hj).1 k hk
        rw [hj] at e2; cases e2
      · obtain ⟨_, e2⟩ := emp j i (h2 hi hj).1 k hk
        rw [hi] at e2; cases e2
      · rcases h4 hi hj with h | h
        · obtain ⟨_, e2⟩ := emp j i h.1 k hk
          rw [hi] at e2; cases e2
        · obtain ⟨_, e2⟩ := emp i j h.1 k hk
          rw [hj] at e2; cases e2
    obtain ⟨x, y, hF⟩ := avail listed hsz (fun o => wpAny P .any o Q 0 listed a w) h1 h2 h3 h4
    exact ⟨hnil, hF.2⟩
  | succ fuel ih =>
    intro listed a w hsz h1 h2 h3 h4
    refine ⟨fun hn => ?_, fun k hk => ?_⟩
    · obtain ⟨x, y, hF⟩ := avail listed hsz (fun o => wpAny P .any o Q (fuel + 1) listed a w) h1 h2 h3 h4
      refine hF.1 ?_
      rw [List.eq_nil_iff_forall_not_mem] at hn ⊢
      exact fun k hk => hn k (ready_addE.1 hk).1
    · obtain ⟨hkl, o, ho, hedge⟩ := mem_ready.1 hk
      have hklt : k < listed.size := by rw [hsz]; exact (Array.getElem?_eq_some_iff.1 ho).1
      have hkf : listed.getD k false = false := by
        simp only [Array.getD_eq_getD_getElem?, Array.getElem?_eq_getElem hklt, Option.getD_some] at hkl ⊢
        exact hkl
      have hsz' : (listed.setIfInBounds k true).size = ops.size := by simpa using hsz
      have same : ∀ q, q ≠ k → (listed.setIfInBounds k true).getD q false = listed.getD q false := fun q hq => getD_set_ne false (Ne.symm hq)
      have now : (listed.setIfInBounds k true).getD k false = true := by simp [hklt]
      have goA : (k = j → listed.getD i false = true) → wpAny P .any (addE j i ops.toList 0).toArray Q (fuel + 1) listed a w → wpOp P ops Q k (wpAny P .any (addE j i ops.toList 0).toArray Q fuel (listed.setIfInBounds k true)) a w := by
        intro hc hA
        have := hA.2 k (ready_addE.2 ⟨hk, hc⟩)
        rwa [wpOp_addE] at this
      have goB : (k = i → listed.getD j false = true) → wpAny P .any (addE i j ops.toList 0).toArray Q (fuel + 1) listed a w → wpOp P ops Q k (wpAny P .any (addE i j ops.toList 0).toArray Q fuel (listed.setIfInBounds k true)) a w := by
        intro hc hB
        have := hB.2 k (ready_addE.2 ⟨hk, hc⟩)
        rwa [wpOp_addE] at this
      by_cases hki : k = i
      · subst hki
        cases hj : listed.getD j false with
        | true =>
          refine wpOp_mono (fun a' w' hB => ih _ a' w' hsz' ?_ ?_ ?_ fun _ _ => .inr hB) (goB (fun _ => hj) (h3 hkf hj))
          · intro e; rw [now] at e; cases e
          · intro _ e; rw [same j (Ne.symm hij), hj] at e; cases e
          · intro e; rw [now] at e; cases e
        | false =>
          refine wpOp_mono (fun a' w' hA => ih _ a' w' hsz' ?_ (fun _ _ => hA) ?_ ?_) (goA (fun e => absurd e hij) (h1 hkf hj).1)
          · intro e; rw [now] at e; cases e
          · intro e; rw [now] at e; cases e
          · intro _ e; rw [same j (Ne.symm hij), hj] at e; cases e
      · by_cases hkj : k = j
        · subst hkj
          cases hi : listed.getD i false with
          | true =>
            refine wpOp_mono (fun a' w' hA => ih _ a' w' hsz' ?_ ?_ ?_ fun _ _ => .inl hA) (goA (fun _ => hi) (h2 hi hkf))
            · intro _ e; rw [now] at e; cases e
            · intro _ e; rw [now] at e; cases e
            · intro e; rw [same i hij, hi] at e; cases e
          | false =>
            refine wpOp_mono (fun a' w' hB => ih _ a' w' hsz' ?_ ?_ (fun _ _ => hB) ?_) (goB (fun e => absurd e.symm hij) (h1 hi hkf).2)
            · intro _ e; rw [now] at e; cases e
            · intro e; rw [same i hij, hi] at e; cases e
            · intro e; rw [same i hij, hi] at e; cases e
        · have si := same i (Ne.symm hki)
          have sj := same j (Ne.symm hkj)
          cases hi : listed.getD i false <;> cases hj : listed.getD j false
          · obtain ⟨hA, hB⟩ := h1 hi hj
            have ht : ∀ o', ops[k]? = some o' → tellsV o'.op = true := by
              intro o' ho'
              rw [ho] at ho'; cases ho'
              rcases hsafe k o ho hki hkj with h | ⟨e, he, hb, hon⟩
              · exact h
              · have := hedge e he hb
                rcases hon with hon | hon
                · rw [hon, hi] at this; cases this
                · rw [hon, hj] at this; cases this
            refine wpOp_mono (fun a' w' hAB => ih _ a' w' hsz' (fun _ _ => hAB) ?_ ?_ ?_) (wpOp_and ht (goA (fun e => absurd e hkj) hA) (goB (fun e => absurd e hki) hB))
            · intro e; rw [si, hi] at e; cases e
            · intro _ e; rw [sj, hj] at e; cases e
            · intro e; rw [si, hi] at e; cases e
          · refine wpOp_mono (fun a' w' hB => ih _ a' w' hsz' ?_ ?_ (fun _ _ => hB) ?_) (goB (fun e => absurd e hki) (h3 hi hj))
            · intro _ e; rw [sj, hj] at e; cases e
            · intro e; rw [si, hi] at e; cases e
            · intro e; rw [si, hi] at e; cases e
          · refine wpOp_mono (fun a' w' hA => ih _ a' w' hsz' ?_ (fun _ _ => hA) ?_ ?_) (goA (fun e => absurd e hkj) (h2 hi hj))
            · intro e; rw [si, hi] at e; cases e
            · intro e; rw [si, hi] at e; cases e
            · intro _ e; rw [sj, hj] at e; cases e
          · rcases h4 hi hj with h | h
            · refine wpOp_mono (fun a' w' hA => ih _ a' w' hsz' ?_ ?_ ?_ fun _ _ => .inl hA) (goA (fun e => absurd e hkj) h)
              · intro e; rw [si, hi] at e; cases e
              · intro _ e; rw [sj, hj] at e; cases e
              · intro e; rw [si, hi] at e; cases e
            · refine wpOp_mono (fun a' w' hB => ih _ a' w' hsz' ?_ ?_ ?_ fun _ _ => .inr hB) (goB (fun e => absurd e hki) h)
              · intro e; rw [si, hi] at e; cases e
              · intro _ e; rw [sj, hj] at e; cases e
              · intro e; rw [si, hi] at e; cases e
end Go.Eng

set_option autoImplicit false
namespace Go.Eng
open Go Go.RowKit
theorem oneT_holds {α : Type} (x : T α) : ∀ {a : α}, oneT x = some a → x.holds (· = a) (fun _ _ => False) := by
  induction x with
  | ret b => intro a h; exact Option.some.inj h
  | br b t e iht ihe =>
    intro a h
    have h : (@Bool.rec (fun _ => Option α) (oneT e) (oneT t) b) = some a := h
    cases b with
    | true => exact ⟨fun _ => iht h, fun e => (by cases e)⟩
    | false => exact ⟨fun e => (by cases e), fun _ => ihe h⟩
  | pan x M => intro a h; cases h
  | ck b t ih =>
    intro a h
    have h : (@Bool.rec (fun _ => Option α) none (oneT t) b) = some a := h
    cases b with
    | true => exact ⟨rfl, ih h⟩
    | false => cases h
  | fail => intro a h; cases h
theorem bytes_inj {l m : List ByteArray} (h : l.map (fun x => x.data.toList) = m.map (fun x => x.data.toList)) : l = m := by
  induction l generalizing m with
  | nil => cases m with
    | nil => rfl
    | cons => cases h
  | cons x l ih => cases m with
    | nil => cases h
    | cons y m =>
      simp only [List.map_cons, List.cons.injEq] at h
      rw [ih h.2, ByteArray.ext (Array.ext' h.1)]
theorem eqCol_ok {a b : Col} (h : eqCol a b = true) : a = b := by
  unfold eqCol at h
  split at h
  · split at h
    · obtain ⟨h1, h2⟩ := Bool.and_eq_true_iff.1 h
      rw [of_decide_eq_true h1, of_decide_eq_true h2]
    · cases h
  · split at h
    · rw [bytes_inj (of_decide_eq_true h)]
    · cases h
  · split at h
    · rw [of_decide_eq_true h]
    · cases h
  · split at h
    · obtain ⟨h1, h2⟩ := Bool.and_eq_true_iff.1 h
      rw [of_decide_eq_true h1, of_decide_eq_true h2]
    · cases h
  · cases h
theorem eqCols_ok (l : List Col) : ∀ {m : List Col}, eqCols l m = true → l = m := by
  induction l with
  | nil => intro m h; cases m with
    | nil => rfl
    | cons y m => cases h
  | cons x l ih => intro m h; cases m with
    | nil => cases h
    | cons y m =>
      obtain ⟨h1, h2⟩ := bif2_tt (show bif2 (eqCol x y) (eqCols l m) false = true from h)
      rw [eqCol_ok h1, ih h2]
theorem eqL1_ok (l : List AV) : ∀ {m : List AV}, eqL1 l m = true → l = m := by
  induction l with
  | nil => intro m h; cases m with
    | nil => rfl
    | cons y m => cases h
  | cons x l ih => intro m h; cases m with
    | nil => cases h
    | cons y m =>
      obtain ⟨h1, h2⟩ := bif2_tt (show bif2 (eqAV x y) (eqL1 l m) false = true from h)
      rw [eqAV_ok h1, ih h2]
theorem eqObj_ok {a b : AObj} (h : eqObj a b = true) : a = b := by
  unfold eqObj at h
  split at h
  · split at h
    · rfl
    · cases h
  · split at h
    · obtain ⟨h1, h2⟩ := Bool.and_eq_true_iff.1 h
      obtain ⟨h2, h3⟩ := Bool.and_eq_true_iff.1 h2
      rw [Nat.eq_of_beq_eq_true h1, Nat.eq_of_beq_eq_true h2, eqL1_ok _ h3]
    · cases h
  · split at h
    · obtain ⟨h1, h2⟩ := Bool.and_eq_true_iff.1 h
      obtain ⟨h2, h3⟩ := Bool.and_eq_true_iff.1 h2
      rw [Nat.eq_of_beq_eq_true h1, Nat.eq_of_beq_eq_true h2, eqCols_ok _ h3]
    · cases h
  · cases h
theorem eqObjs_ok (l : List AObj) : ∀ {m : List AObj}, eqObjs l m = true → l = m := by
  induction l with
  | nil => intro m h; cases m with
    | nil => rfl
    | cons y m => cases h
  | cons x l ih => intro m h; cases m with
    | nil => cases h
    | cons y m =>
      obtain ⟨h1, h2⟩ := bif2_tt (show bif2 (eqObj x y) (eqObjs l m) false = true from h)
      rw [eqObj_ok h1, ih h2]
theorem eqVs_ok {V W : DR} (n : Nat) (h : eqVs V W n = true) : ∀ k, k < n → (V k).1 = (W k).1 := by
  induction n with
  | zero => intro k hk; omega
  | succ n ih =>
    obtain ⟨h1, h2⟩ := bif2_tt (show bif2 (eqAV (V n).1 (W n).1) (eqVs V W n) false = true from h)
    intro k hk
    by_cases e : k = n
    · subst e; exact eqAV_ok h1
    · exact ih h2 k (by omega)
theorem stA_addE {R : DR} {st0 : Tmps} {anc : Nat} (i j : Nat) (l : List Oper) : ∀ k q, stA R st0 anc (addE i j l q) k = stA R st0 anc l k := by
  induction l with
  | nil => intro k q; rfl
  | cons o l ih =>
    intro k q
    show putA (bif2 (Nat.beq q i) { o with after := o.after.push ⟨j, .data⟩ } o).dst (stA R st0 anc (addE i j l (q + 1)) (k + 1)) (bif2 (Nat.testBit anc k) (R k).1 .top) = putA o.dst (stA R st0 anc l (k + 1)) (bif2 (Nat.testBit anc k) (R k).1 .top)
    rw [ih, bif2_eq]
    split <;> rfl
theorem stA_same {R R' : DR} {st0 : Tmps} {anc : Nat} (l : List Oper) : ∀ k, (∀ q, k ≤ q → q < k + l.length → (R q).1 = (R' q).1) → stA R st0 anc l k = stA R' st0 anc l k := by
  induction l with
  | nil => intro k _; rfl
  | cons o l ih =>
    intro k h
    show putA o.dst (stA R st0 anc l (k + 1)) (bif2 (Nat.testBit anc k) (R k).1 .top) = putA o.dst (stA R' st0 anc l (k + 1)) (bif2 (Nat.testBit anc k) (R' k).1 .top)
    rw [ih (k + 1) (fun q h1 h2 => h q (by omega) (by simp only [List.length_cons]; omega)), h k (Nat.le_refl _) (by simp)]
theorem canon_get {M0 M : Mem} (id : Nat) : (canonM M0 M).get id = if id < M0.lock then M0.get id else if id < M0.lock + (M.next - M0.lock) then M.get id else .dead := by
  show bif2 (Nat.blt id M0.lock) (M0.get id) (nthO (highL M0.lock M) (id - M0.lock)) = _
  rw [bif2_eq]
  by_cases h : id < M0.lock
  · rw [if_pos (by simpa [Nat.blt_eq] using h), if_pos h]
  · rw [if_neg (by simpa [Nat.blt_eq] using h), if_neg h]
    unfold nthO highL
    rw [nth?_eq, mapL_eq, List.getElem?_map, iota_eq, show Nat.sub M.next M0.lock = M.next - M0.lock from rfl]
    by_cases h2 : id < M0.lock + (M.next - M0.lock)
    · rw [if_pos h2]
      rw [List.getElem?_range (by omega)]
      show M.get (M0.lock + (id - M0.lock)) = _
      congr 1; omega
    · rw [if_neg h2]
      rw [List.getElem?_eq_none (by simp; omega)]
      rfl
theorem canon_len (M0 M : Mem) : (highL M0.lock M).length = M.next - M0.lock := by
  unfold highL; rw [mapL_eq, List.length_map, iota_eq, List.length_range]; rfl
/-- What is read only is as it was. -/
theorem canon_ok {N : NB} {φ φ' : Phi} {M M' : Mem} {w w' : World} (hr : Rep N φ M w) (hr' : Rep N φ' M' w') (he : Ext φ M w φ' M' w') (hl : M.lock ≤ M.next) : Rep N φ' (canonM M M') w' ∧ Ext φ M w φ' (canonM M M') w' := by
  have hnx : (canonM M M').next = M'.next := by
    show M.lock + (highL M.lock M').length = M'.next
    rw [canon_len]
    have := he.next
    omega
  have hbound : M.lock + (M'.next - M.lock) = M'.next := by have := he.next; omega
  have get : ∀ id, (canonM M M').get id = if id < M.lock then M.get id else if id < M'.next then M'.get id else .dead := by intro id; rw [canon_get, hbound]
  have own : ∀ id p, isOwn ((canonM M M').get id) → φ' id = some (some p) → (id < M.lock ∧ isOwn (M.get id) ∧ φ id = some (some p)) ∨ (M.lock ≤ id ∧ isOwn (M'.get id)) := by
    intro id p ho hp
    rw [get] at ho
    by_cases h : id < M.lock
    · rw [if_pos h] at ho
      exact .inl ⟨h, ho, by rw [← he.phi0 id (by omega)]; exact hp⟩
    · rw [if_neg h] at ho
      split at ho
      · exact .inr ⟨by omega, ho⟩
      · exact ho.elim
  have mixed : ∀ id id' p p', id < M.lock → isOwn (M.get id) → φ id = some (some p) → M.lock ≤ id' → isOwn (M'.get id') → φ' id' = some (some p') → p.b = p'.b → False := by
    intro id id' p p' h1 h2 h3 h4 h5 h6 e
    have hlt := hr.lt id p h2 h3
    obtain ⟨id2, p2, k1, k2, k3, k4⟩ := he.old id' p' h5 h6 (by omega)
    have := hr.sep id id2 p p2 h2 k1 h3 k2 (by omega)
    have := k4 h4
    omega
  refine ⟨⟨fun id => ?_, fun id id' p p' ho ho' hp hp' e => ?_, fun id p ho hp => ?_, fun id hid => ?_, hr'.size⟩,
    ⟨he.phi, he.phi0, by rw [hnx]; exact he.next, rfl, he.os, he.tape, he.output, he.size, he.keep, fun id p ho hp hb => ?_⟩⟩
  · rw [get]
    split
    · rename_i h
      refine (hr.objs id).step he.phi (fun b hb => he.keep b (Nat.lt_of_lt_of_le hb hr.size) fun id2 p2 _ h2 h3 e => ?_) fun ho p hp => he.keep p.b (hr.lt id p ho hp) fun id2 p2 h1 h2 h3 e => ?_
      · have := hr.high id2 p2 h2 h3; omega
      · have := hr.sep id id2 p p2 ho h2 hp h3 e.symm; omega
    · split
      · exact hr'.objs id
      · exact hr'.glob
  · rcases own id p ho hp with ⟨a1, a2, a3⟩ | ⟨a1, a2⟩ <;> rcases own id' p' ho' hp' with ⟨b1, b2, b3⟩ | ⟨b1, b2⟩
    · exact hr.sep id id' p p' a2 b2 a3 b3 e
    · exact (mixed id id' p p' a1 a2 a3 b1 b2 hp' e).elim
    · exact (mixed id' id p' p b1 b2 b3 a1 a2 hp e.symm).elim
    · exact hr'.sep id id' p p' a2 b2 hp hp' e
  · rcases own id p ho hp with ⟨a1, a2, a3⟩ | ⟨a1, a2⟩
    · exact hr.high id p a2 a3
    · exact hr'.high id p a2 hp
  · rw [hnx] at hid
    have := hr'.fresh id hid
    have := he.next
    rw [get, if_neg (by omega), if_neg (by omega)]
    exact ⟨rfl, (hr'.fresh id hid).2⟩
  · rcases own id p ho hp with ⟨a1, a2, a3⟩ | ⟨a1, a2⟩
    · exact ⟨id, p, a2, a3, rfl, fun h => h⟩
    · exact he.old id p a2 hp hb
theorem canon_eq {M0 M M' : Mem} (h : highL M0.lock M = highL M0.lock M') : canonM M0 M = canonM M0 M' := by
  unfold canonM; rw [h]

section
variable {i j : Nat} (hij : i < j)
include hij
theorem pi1_eq (k : Nat) : pi1 i j k = if k < i then k else if k = i then j else if k ≤ j then k - 1 else k := by
  unfold pi1
  rw [bif2_eq, bif2_eq, bif2_eq]
  have hb : ∀ a b : Nat, (Nat.beq a b = true) = (a = b) := fun a b => propext ⟨Nat.eq_of_beq_eq_true, fun e => by subst e; exact Nat.beq_refl _⟩
  simp only [Nat.blt_eq, Nat.ble_eq, hb]
theorem pi2_eq (q : Nat) : pi2 i j q = if q < i then q else if q < j then q + 1 else if q = j then i else q := by
  unfold pi2
  rw [bif2_eq, bif2_eq, bif2_eq]
  have hb : ∀ a b : Nat, (Nat.beq a b = true) = (a = b) := fun a b => propext ⟨Nat.eq_of_beq_eq_true, fun e => by subst e; exact Nat.beq_refl _⟩
  simp only [Nat.blt_eq, hb]
theorem pi21 (k : Nat) : pi2 i j (pi1 i j k) = k := by
  rw [pi1_eq hij]
  split
  · rw [pi2_eq hij, if_pos (by assumption)]
  · split
    · rw [pi2_eq hij, if_neg (by omega), if_neg (by omega), if_pos rfl]; omega
    · split
      · rw [pi2_eq hij, if_neg (by omega), if_pos (by omega)]; omega
      · rw [pi2_eq hij, if_neg (by omega), if_neg (by omega), if_neg (by omega)]
theorem pi12 (q : Nat) : pi1 i j (pi2 i j q) = q := by
  rw [pi2_eq hij]
  split
  · rw [pi1_eq hij, if_pos (by assumption)]
  · split
    · rw [pi1_eq hij, if_neg (by omega), if_neg (by omega), if_pos (by omega)]; omega
    · split
      · rw [pi1_eq hij, if_neg (by omega), if_pos rfl]; omega
      · rw [pi1_eq hij, if_neg (by omega), if_neg (by omega), if_neg (by omega)]
theorem pi1_lt {n : Nat} (hj : j < n) (k : Nat) : pi1 i j k < n ↔ k < n := by
  rw [pi1_eq hij]
  split
  · exact Iff.rfl
  · split
    · omega
    · split <;> omega
theorem perm_get {l : List Oper} (hj : j < l.length) (k : Nat) : (permL i j l)[pi1 i j k]? = (l[k]?).map (renOp i j) := by
  unfold permL
  rw [mapL_eq, iota_eq, List.getElem?_map]
  by_cases hk : k < l.length
  · rw [List.getElem?_range ((pi1_lt hij hj k).2 hk), Option.map_some, pi21 hij, nth?_eq, List.getElem?_eq_getElem hk]
    rfl
  · rw [List.getElem?_eq_none (l := List.range l.length) (by simp only [List.length_range]; have := (pi1_lt hij hj k); omega), List.getElem?_eq_none (by omega)]
    rfl
theorem perm_arr {ops : Array Oper} (hj : j < ops.size) (k : Nat) : (permL i j ops.toList).toArray[pi1 i j k]? = (ops[k]?).map (renOp i j) := by
  have := perm_get hij (l := ops.toList) (by simpa using hj) k
  simpa using this
theorem perm_len (l : List Oper) : (permL i j l).length = l.length := by
  unfold permL; rw [mapL_eq, List.length_map, iota_eq, List.length_range]
theorem yielded_perm {ops : Array Oper} (hj : j < ops.size) (tmps : Array Value) (k : Nat) : yielded (permL i j ops.toList).toArray tmps (pi1 i j k) = yielded ops tmps k := by
  unfold yielded
  rw [perm_arr hij hj]
  cases ops[k]? with
  | none => rfl
  | some o => rfl
theorem wpOp_perm {P : Program} {ops : Array Oper} (hj : j < ops.size) {Q : Exit → Act → World → Prop} {k : Nat} {K : Act → World → Prop} {a : Act} {w : World} : wpOp P (permL i j ops.toList).toArray Q (pi1 i j k) K a w = wpOp P ops Q k K a w := by
  unfold wpOp
  rw [perm_arr hij hj]
  cases ops[k]? with
  | none => rfl
  | some o =>
    simp only [Option.map_some]
    have hw : Region.wanted (renOp i j o) (yielded (permL i j ops.toList).toArray a.tmps) = Region.wanted o (yielded ops a.tmps) := by
      unfold Region.wanted renOp
      cases o.guard with
      | none => rfl
      | some g => simp only [Option.map_some, yielded_perm hij hj]
    rw [hw]
    rfl
theorem ready_perm {ops : Array Oper} (hj : j < ops.size) {listed listed' : Array Bool} (hs : listed.size = ops.size) (hs' : listed'.size = ops.size) (hl : ∀ k, listed'.getD (pi1 i j k) false = listed.getD k false) {k : Nat} :
    pi1 i j k ∈ Region.ready .any (permL i j ops.toList).toArray listed' ↔ k ∈ Region.ready .any ops listed := by
  have tt : ∀ (L : Array Bool) (q : Nat), q < L.size → L.getD q true = L.getD q false := by
    intro L q hq; simp [Array.getD_eq_getD_getElem?, hq]
  rw [mem_ready, mem_ready, perm_arr hij hj]
  constructor
  · rintro ⟨h0, o, ho, hall⟩
    rw [Option.map_eq_some_iff] at ho
    obtain ⟨p, hp, rfl⟩ := ho
    have hk := (Array.getElem?_eq_some_iff.1 hp).1
    rw [tt _ _ (by rw [hs']; exact (pi1_lt hij hj k).2 hk), hl] at h0
    refine ⟨by rw [tt _ _ (by rw [hs]; exact hk)]; exact h0, p, hp, fun e he hb => ?_⟩
    have := hall { e with on := pi1 i j e.on } (by simp only [renOp]; exact Array.mem_map.2 ⟨e, he, rfl⟩) hb
    rwa [hl] at this
  · rintro ⟨h0, p, hp, hall⟩
    have hk := (Array.getElem?_eq_some_iff.1 hp).1
    rw [tt _ _ (by rw [hs]; exact hk)] at h0
    refine ⟨by rw [tt _ _ (by rw [hs']; exact (pi1_lt hij hj k).2 hk), hl]; exact h0, renOp i j p, by rw [hp]; rfl, fun e he hb => ?_⟩
    simp only [renOp] at he
    obtain ⟨e0, he0, rfl⟩ := Array.mem_map.1 he
    show listed'.getD (pi1 i j e0.on) false = true
    rw [hl]
    exact hall e0 he0 hb
/-- Operations in another order of the text. -/
theorem wpAny_perm {P : Program} {ops : Array Oper} (hj : j < ops.size) {Q : Exit → Act → World → Prop} : ∀ (fuel : Nat) (listed listed' : Array Bool) (a : Act) (w : World), listed.size = ops.size → listed'.size = ops.size →
    (∀ k, listed'.getD (pi1 i j k) false = listed.getD k false) → wpAny P .any (permL i j ops.toList).toArray Q fuel listed' a w → wpAny P .any ops Q fuel listed a w := by
  intro fuel
  have nil : ∀ (listed listed' : Array Bool), listed.size = ops.size → listed'.size = ops.size → (∀ k, listed'.getD (pi1 i j k) false = listed.getD k false) →
      (Region.ready .any (permL i j ops.toList).toArray listed' = [] ↔ Region.ready .any ops listed = []) := by
    intro listed listed' hs hs' hl
    rw [List.eq_nil_iff_forall_not_mem, List.eq_nil_iff_forall_not_mem]
    constructor
    · intro h k hk; exact h _ ((ready_perm hij hj hs hs' hl).2 hk)
    · intro h q hq
      rw [← pi12 hij q] at hq
      exact h _ ((ready_perm hij hj hs hs' hl).1 hq)
  induction fuel with
  | zero => intro listed listed' a w hs hs' hl h; exact ⟨(nil listed listed' hs hs' hl).1 h.1, h.2⟩
  | succ fuel ih =>
    intro listed listed' a w hs hs' hl h
    refine ⟨fun hn => h.1 ((nil listed listed' hs hs' hl).2 hn), fun k hk => ?_⟩
    have := h.2 _ ((ready_perm hij hj hs hs' hl).2 hk)
    rw [wpOp_perm hij hj] at this
    refine wpOp_mono (fun a' w' h' => ih _ _ a' w' (by simpa using hs) (by simpa using hs') (fun q => ?_) h') this
    by_cases e : q = k
    · subst e
      obtain ⟨_, o, ho, _⟩ := mem_ready.1 hk
      have hk := (Array.getElem?_eq_some_iff.1 ho).1
      have h1 : pi1 i j q < listed'.size := by rw [hs']; exact (pi1_lt hij hj q).2 hk
      have h2 : q < listed.size := by rw [hs]; exact hk
      simp [h1, h2]
    · have hne : pi1 i j q ≠ pi1 i j k := fun h => e (by rw [← pi21 hij q, h, pi21 hij])
      rw [getD_set_ne false (Ne.symm hne), getD_set_ne false (Ne.symm e)]
      exact hl q
theorem stA_perm {R R' : DR} {st0 : Tmps} {l : List Oper} (hj : j < l.length) (hd : dstsOk l = true) (h : ∀ k, k < l.length → (R' (pi1 i j k)).1 = (R k).1) :
    stA R' st0 (Nat.sub (Nat.pow 2 l.length) 1) (permL i j l) 0 = stA R st0 (Nat.sub (Nat.pow 2 l.length) 1) l 0 := by
  have hbit : ∀ k, k < l.length → Nat.testBit (Nat.sub (Nat.pow 2 l.length) 1) k = true := fun k hk => by
    show Nat.testBit (2 ^ l.length - 1) k = true
    rw [Nat.testBit_two_pow_sub_one]; simpa using hk
  funext t
  rcases stA_spec (R := R') (st0 := st0) (anc := Nat.sub (Nat.pow 2 l.length) 1) (permL i j l) 0 t with ⟨q, o', ho', hd', hv'⟩ | ⟨hno', hv'⟩ <;>
    rcases stA_spec (R := R) (st0 := st0) (anc := Nat.sub (Nat.pow 2 l.length) 1) l 0 t with ⟨k, o, ho, hdt, hv⟩ | ⟨hno, hv⟩
  · have hk := (List.getElem?_eq_some_iff.1 ho).1
    rw [← pi12 hij q, perm_get hij hj, Option.map_eq_some_iff] at ho'
    obtain ⟨p, hp, rfl⟩ := ho'
    have hq := (List.getElem?_eq_some_iff.1 hp).1
    have hpt : p.dst = some t := hd'
    have e : pi2 i j q = k := dstsOk_ne hd _ _ _ _ t hp ho hpt hdt
    have e2 : q = pi1 i j k := by rw [← e, pi12 hij]
    subst e2
    rw [hv', hv, Nat.zero_add, Nat.zero_add, if_pos (hbit k hk), if_pos (hbit _ ((pi1_lt hij hj k).2 hk))]
    exact h k hk
  · rw [← pi12 hij q, perm_get hij hj, Option.map_eq_some_iff] at ho'
    obtain ⟨p, hp, rfl⟩ := ho'
    exact absurd hd' (hno _ p hp)
  · exact absurd hdt (hno' (pi1 i j k) (renOp i j o) (by rw [perm_get hij hj, ho]; rfl))
  · rw [hv', hv]
end

end Go.Eng

set_option autoImplicit false
namespace Go.Eng
open Go Go.RowKit
/-! ## A region that draws its order: those that write, in each order that there is -/
theorem inWS_ok {mk : Nat → Nat} {D j : Nat} (l : List Oper) : ∀ {i : Nat} (_ : ∀ k o, l[k]? = some o → mvK o = false → (Nat.testBit D (i + k) = true → Nat.testBit (mk (i + k)) j = false) ∧ (Nat.testBit D (i + k) = false → Nat.testBit (mk j) (i + k) = false)), inWS mk D j l i = true := by
  induction l with
  | nil => intro i _; rfl
  | cons o l ih =>
    intro i h
    have hr : inWS mk D j l (i + 1) = true := ih fun k p hp hm => by
      have := h (k + 1) p (by simpa using hp) hm
      rw [show i + 1 + k = i + (k + 1) by omega]; exact this
    show bif2 (mvK o) (inWS mk D j l (i + 1)) (bif2 (Nat.testBit D i) (bif2 (Nat.testBit (mk i) j) false (inWS mk D j l (i + 1))) (bif2 (Nat.testBit (mk j) i) false (inWS mk D j l (i + 1)))) = true
    rw [hr]
    cases hm : mvK o with
    | true => rfl
    | false =>
      obtain ⟨h1, h2⟩ := h 0 o rfl hm
      rw [Nat.add_zero] at h1 h2
      cases hb : Nat.testBit D i with
      | true => rw [h1 hb]; rfl
      | false => rw [h2 hb]; rfl
theorem rdyW_ok {mk : Nat → Nat} {D b : Nat} (l : List Oper) : ∀ {i : Nat} (_ : ∀ k o, l[k]? = some o → mvK o = false → Nat.testBit (mk b) (i + k) = true → Nat.testBit D (i + k) = true), rdyW mk D b l i = true := by
  induction l with
  | nil => intro i _; rfl
  | cons o l ih =>
    intro i h
    have hr : rdyW mk D b l (i + 1) = true := ih fun k p hp hm => by
      have := h (k + 1) p (by simpa using hp) hm
      rw [show i + 1 + k = i + (k + 1) by omega]; exact this
    show bif2 (mvK o) (rdyW mk D b l (i + 1)) (bif2 (Nat.testBit (mk b) i) (bif2 (Nat.testBit D i) (rdyW mk D b l (i + 1)) false) (rdyW mk D b l (i + 1))) = true
    rw [hr]
    cases hm : mvK o with
    | true => rfl
    | false =>
      have h1 := h 0 o rfl hm
      rw [Nat.add_zero] at h1
      cases hb : Nat.testBit (mk b) i with
      | true => rw [h1 hb]; rfl
      | false => rfl
theorem rdyW_ff {mk : Nat → Nat} {D b : Nat} (l : List Oper) : ∀ {i : Nat} (_ : rdyW mk D b l i = true) {k : Nat} {o : Oper} (_ : l[k]? = some o) (_ : mvK o = false) (_ : Nat.testBit (mk b) (i + k) = true), Nat.testBit D (i + k) = true := by
  induction l with
  | nil => intro i _ k o h; simp at h
  | cons p l ih =>
    intro i h k o hk hm hb
    have h : bif2 (mvK p) (rdyW mk D b l (i + 1)) (bif2 (Nat.testBit (mk b) i) (bif2 (Nat.testBit D i) (rdyW mk D b l (i + 1)) false) (rdyW mk D b l (i + 1))) = true := h
    cases k with
    | zero =>
      have hp : p = o := by simpa using hk
      subst hp
      rw [hm] at h
      rw [Nat.add_zero] at hb ⊢
      have h : bif2 (Nat.testBit (mk b) i) (bif2 (Nat.testBit D i) (rdyW mk D b l (i + 1)) false) (rdyW mk D b l (i + 1)) = true := h
      rw [hb] at h
      exact (bif2_tt (show bif2 (Nat.testBit D i) (rdyW mk D b l (i + 1)) false = true from h)).1
    | succ k =>
      have hr : rdyW mk D b l (i + 1) = true := by
        rw [bif2_eq] at h
        split at h
        · exact h
        · rw [bif2_eq] at h
          split at h
          · exact (bif2_tt h).2
          · exact h
      have := ih hr (k := k) (o := o) (by simpa using hk) hm (by rw [show i + 1 + k = i + (k + 1) by omega]; exact hb)
      rwa [show i + 1 + k = i + (k + 1) by omega] at this
/-- While a region draws: which are done, up to which of those that write. -/
structure D2S (N : NB) (n : Nat) (ds : List Deferred) (ops : Array Oper) (mk : Nat → Nat) (st0 : Tmps) (V : DR) (φ0 : Phi) (M0 : Mem) (w0 : World) (listed : Nat → Prop) (b : Nat) (φ : Phi) (M : Mem) (w : World) (a : Act) : Prop where
  rep : Rep N φ M w
  ext : Ext φ0 M0 w0 φ M w
  val : ∀ k, listed k → ∀ (o : Oper) (t : Tmp), ops[k]? = some o → o.dst = some t → AVRel φ (V k).1 (a.tmps.getD t undef)
  init : ∀ (t : Tmp), (∀ (k : Nat) (o : Oper), listed k → ops[k]? = some o → o.dst ≠ some t) → AVRel φ (st0 t) (a.tmps.getD t undef)
  size : a.tmps.size = n
  defers : a.defers = ds
  cl : ∀ k, listed k → ∀ i, Nat.testBit (mk k) i = true → listed i
  wr : ∀ k o, ops[k]? = some o → mvK o = false → (listed k ↔ Nat.testBit b k = true)
theorem D2S.tmps {N : NB} {n : Nat} {ds : List Deferred} {ops : Array Oper} {mk : Nat → Nat} {st0 : Tmps} {V : DR} {φ0 φ : Phi} {M0 M : Mem} {w0 w : World} {listed : Nat → Prop} {b : Nat} {a : Act} (h : D2S N n ds ops mk st0 V φ0 M0 w0 listed b φ M w a)
    {anc : Nat} (hanc : ∀ i, i < ops.size → Nat.testBit anc i = true → listed i) : TmpsRel φ (stA V st0 anc ops.toList 0) a.tmps := by
  intro t
  rcases stA_spec (R := V) (st0 := st0) (anc := anc) ops.toList 0 t with ⟨i, o, ho, hdt, hv⟩ | ⟨hno, hv⟩
  · rw [hv]
    simp only [Nat.zero_add]
    split
    · rename_i hb
      have ho' : ops[i]? = some o := by simpa using ho
      exact h.val i (hanc i (Array.getElem?_eq_some_iff.1 ho').1 hb) o t ho' hdt
    · exact .top _
  · rw [hv]
    exact h.init t fun k o _ hk => hno k o (by simpa using hk)
theorem D2S.tmpsJ {N : NB} {n : Nat} {ds : List Deferred} {ops : Array Oper} {mk : Nat → Nat} {st0 : Tmps} {V : DR} {φ0 φ : Phi} {M0 M : Mem} {w0 w : World} {listed : Nat → Prop} {b : Nat} {a : Act} (h : D2S N n ds ops mk st0 V φ0 M0 w0 listed b φ M w a)
    {j : Nat} (hanc : ∀ i, i < ops.size → Nat.testBit (mk j) i = true → listed i) (hnl : ¬ listed j) : TmpsRel φ (stA V st0 (mk j) (effL mk j ops.toList 0) 0) a.tmps := by
  intro t
  rcases stJ_spec (R := V) (st0 := st0) (anc := mk j) (mk := mk) (j := j) ops.toList t with ⟨i, o, ho, hdt, hv⟩ | ⟨hno, hv⟩
  · rw [hv]
    split
    · rename_i hb
      have ho' : ops[i]? = some o := by simpa using ho
      exact h.val i (hanc i (Array.getElem?_eq_some_iff.1 ho').1 hb) o t ho' hdt
    · exact .top _
  · rw [hv]
    exact h.init t fun k o hk ho hot => hnl (h.cl k hk j (hno k o (by simpa using ho) hot))
/-- One more is done. -/
theorem D2S.more {N : NB} {n : Nat} {ds : List Deferred} {ops : Array Oper} {mk : Nat → Nat} {st0 : Tmps} {V : DR} {φ0 φ φ' : Phi} {M0 M M' : Mem} {w0 w w' : World} {listed : Nat → Prop} {b b' : Nat} {a : Act} (h : D2S N n ds ops mk st0 V φ0 M0 w0 listed b φ M w a)
    (hd : dstsOk ops.toList = true) {i : Nat} {o : Oper} {v : Value} (ho : ops[i]? = some o) (hlt : ∀ t, o.dst = some t → t < n) (hni : ¬ listed i) (hanc : ∀ k, Nat.testBit (mk i) k = true → listed k)
    (hr : Rep N φ' M' w') (he : Ext φ M w φ' M' w') (hv : AVRel φ' (V i).1 v)
    (hwr : ∀ k p, ops[k]? = some p → mvK p = false → ((listed k ∨ k = i) ↔ Nat.testBit b' k = true)) : D2S N n ds ops mk st0 V φ0 M0 w0 (fun k => listed k ∨ k = i) b' φ' M' w' (a.put o.dst v) where
  rep := hr
  ext := h.ext.trans he
  val := by
    intro k hk p t hp hpt
    by_cases e : k = i
    · subst e
      rw [ho] at hp; cases hp
      rw [hpt, put_at (by rw [h.size]; exact hlt t hpt)]
      exact hv
    · have hlk : listed k := hk.resolve_right e
      have hne : o.dst ≠ some t := fun hot => e (dstsOk_ne hd k i p o t (by simpa using hp) (by simpa using ho) hpt hot)
      rw [put_ne hne]
      exact (h.val k hlk p t hp hpt).mono he.phi
  init := by
    intro t ht
    rw [put_ne (ht i o (.inr rfl) ho)]
    exact (h.init t fun k p hk hp => ht k p (.inl hk) hp).mono he.phi
  size := by rw [put_size]; exact h.size
  defers := by rw [put_defers]; exact h.defers
  cl := by
    intro k hk j hj
    rcases hk with hk | rfl
    · exact .inl (h.cl k hk j hj)
    · exact .inl (hanc j hj)
  wr := hwr
section
variable {P : Program} {tt : TT} {callF : FuncId → List AV → Mem → T (AV × Mem)} {all : List Oper} {mk : Nat → Nat} {st0 : Tmps} {V : DR}
theorem stageS_ok {D : Nat} {M : Mem} {Qp : AV → Mem → Prop} (l : List Oper) : ∀ {j : Nat} {Q : Bool → Prop} (_ : (stageS P tt callF all mk st0 V D M l j).holds Q Qp),
    Q true ∧ ∀ k o, l[k]? = some o → mvK o = true → inWS mk D (j + k) all 0 = true → (drawOp P tt callF all (lockAll M) (stA V st0 (mk (j + k)) (effL mk (j + k) all 0) 0) o).holds (fun x => eqAV x.1 (V (j + k)).1 = true ∧ okV M.next x.1 = true) (fun _ _ => False) := by
  induction l with
  | nil => intro j Q h; exact ⟨h, fun k o hk => by simp at hk⟩
  | cons p l ih =>
    intro j Q h
    have h : (bif2 (mvK p && inWS mk D j all 0) ((drawOp P tt callF all (lockAll M) (stA V st0 (mk j) (effL mk j all 0) 0) p).bind fun x => .ck (eqAV x.1 (V j).1 && okV M.next x.1) (stageS P tt callF all mk st0 V D M l (j + 1))) (stageS P tt callF all mk st0 V D M l (j + 1))).holds Q Qp := h
    rw [bif2_eq] at h
    by_cases hc : (mvK p && inWS mk D j all 0) = true
    · rw [if_pos hc, T.holds_bind] at h
      have h := drawOp_nopan h
      obtain ⟨x, hx, _⟩ := T.leaf h
      obtain ⟨h1, h2⟩ := ih (ck_ok hx).2
      refine ⟨h1, fun k o hk hm hw => ?_⟩
      cases k with
      | zero =>
        simp at hk; subst hk
        refine T.holds_mono h (fun y hy => ?_) (fun _ _ hf => hf)
        obtain ⟨a1, a2⟩ := Bool.and_eq_true_iff.1 (ck_ok hy).1
        exact ⟨a1, a2⟩
      | succ k =>
        have := h2 k o (by simpa using hk) hm (by rw [show j + 1 + k = j + (k + 1) by omega]; exact hw)
        rw [show j + (k + 1) = j + 1 + k by omega]; exact this
    · rw [if_neg hc] at h
      obtain ⟨h1, h2⟩ := ih h
      refine ⟨h1, fun k o hk hm hw => ?_⟩
      cases k with
      | zero => simp at hk; subst hk; exact absurd (Bool.and_eq_true_iff.2 ⟨hm, hw⟩) hc
      | succ k =>
        have := h2 k o (by simpa using hk) hm (by rw [show j + 1 + k = j + (k + 1) by omega]; exact hw)
        rw [show j + (k + 1) = j + 1 + k by omega]; exact this
theorem brS_ok {go : Nat → Mem → T Mem} {M0 : Mem} {D : Nat} {M : Mem} {R : Mem → Prop} (hR : ∀ M1 M', eqM M0 M1 M' = true → R M1 → R M') (l : List Oper) : ∀ {b : Nat} {acc : Option Mem} (_ : (brS go P tt callF all mk st0 V M0 D M l b acc).holds R (fun _ _ => False)),
    (∀ k o, l[k]? = some o → mvK o = false → Nat.testBit D (b + k) = false → rdyW mk D (b + k) all 0 = true → (drawOp P tt callF all M (stA V st0 (mk (b + k)) (effL mk (b + k) all 0) 0) o).holds (fun x => eqAV x.1 (V (b + k)).1 = true ∧ (go (Nat.lor D (Nat.shiftLeft 1 (b + k))) x.2).holds R (fun _ _ => False)) (fun _ _ => False)) ∧
    (acc = none → (∀ k o, l[k]? = some o → mvK o = false → Nat.testBit D (b + k) = false → rdyW mk D (b + k) all 0 = true → False) → R M) ∧ (∀ M1, acc = some M1 → R M1) := by
  induction l with
  | nil =>
    intro b acc h
    cases acc with
    | none => exact ⟨fun k o hk => by simp at hk, fun _ _ => h, fun M1 e => by cases e⟩
    | some M1 => exact ⟨fun k o hk => by simp at hk, (fun e => by cases e), fun M2 e => by cases e; exact h⟩
  | cons o l ih =>
    intro b acc h
    have h : (bif2 (bif2 (mvK o) false (bif2 (Nat.testBit D b) false (rdyW mk D b all 0)))
      ((drawOp P tt callF all M (stA V st0 (mk b) (effL mk b all 0) 0) o).bind fun x => .ck (eqAV x.1 (V b).1) ((go (Nat.lor D (Nat.shiftLeft 1 b)) x.2).bind fun M' => @Option.rec Mem (fun _ => T Mem) (brS go P tt callF all mk st0 V M0 D M l (b + 1) (some M')) (fun M1 => .ck (eqM M0 M1 M') (brS go P tt callF all mk st0 V M0 D M l (b + 1) (some M1))) acc))
      (brS go P tt callF all mk st0 V M0 D M l (b + 1) acc)).holds R (fun _ _ => False) := h
    rw [bif2_eq] at h
    have shift : ∀ k, b + 1 + k = b + (k + 1) := fun k => by omega
    by_cases hc : bif2 (mvK o) false (bif2 (Nat.testBit D b) false (rdyW mk D b all 0)) = true
    · rw [if_pos hc, T.holds_bind] at h
      obtain ⟨x, hx, hxl⟩ := T.leaf h
      obtain ⟨hx1, hx2⟩ := ck_ok hx
      rw [T.holds_bind] at hx2
      obtain ⟨M2, hM2, hM2l⟩ := T.leaf hx2
      have fin : ∀ (hrest : (∀ k o, l[k]? = some o → mvK o = false → Nat.testBit D (b + 1 + k) = false → rdyW mk D (b + 1 + k) all 0 = true → (drawOp P tt callF all M (stA V st0 (mk (b + 1 + k)) (effL mk (b + 1 + k) all 0) 0) o).holds (fun x => eqAV x.1 (V (b + 1 + k)).1 = true ∧ (go (Nat.lor D (Nat.shiftLeft 1 (b + 1 + k))) x.2).holds R (fun _ _ => False)) (fun _ _ => False))) (hRM : R M2),
          (∀ k p, (o :: l)[k]? = some p → mvK p = false → Nat.testBit D (b + k) = false → rdyW mk D (b + k) all 0 = true → (drawOp P tt callF all M (stA V st0 (mk (b + k)) (effL mk (b + k) all 0) 0) p).holds (fun x => eqAV x.1 (V (b + k)).1 = true ∧ (go (Nat.lor D (Nat.shiftLeft 1 (b + k))) x.2).holds R (fun _ _ => False)) (fun _ _ => False)) := by
        intro hrest hRM k p hk hm hd hr
        cases k with
        | zero =>
          have hp : o = p := by simpa using hk
          subst hp
          rw [Nat.add_zero]
          refine T.holds_mono hxl (fun y hy => ?_) (fun _ _ hf => hf)
          subst hy
          exact ⟨hx1, T.holds_mono hM2l (fun M' e => by subst e; exact hRM) (fun _ _ hf => hf)⟩
        | succ k =>
          have := hrest k p (by simpa using hk) hm (by rw [shift]; exact hd) (by rw [shift]; exact hr)
          rw [shift] at this; exact this
      have hready : mvK o = false ∧ Nat.testBit D b = false ∧ rdyW mk D b all 0 = true := by
        rw [bif2_eq] at hc
        split at hc
        · cases hc
        · rename_i h1
          rw [bif2_eq] at hc
          split at hc
          · cases hc
          · rename_i h2
            exact ⟨by simpa using h1, by simpa using h2, hc⟩
      cases acc with
      | none =>
        obtain ⟨i1, i2, i3⟩ := ih (show (brS go P tt callF all mk st0 V M0 D M l (b + 1) (some M2)).holds R (fun _ _ => False) from hM2)
        refine ⟨fin i1 (i3 M2 rfl), fun _ hno => ?_, fun M1 e => by cases e⟩
        exact (hno 0 o rfl hready.1 hready.2.1 hready.2.2).elim
      | some M1 =>
        obtain ⟨he, hM2⟩ := ck_ok (show (T.ck (eqM M0 M1 M2) (brS go P tt callF all mk st0 V M0 D M l (b + 1) (some M1))).holds R (fun _ _ => False) from hM2)
        obtain ⟨i1, i2, i3⟩ := ih hM2
        refine ⟨fin i1 (hR M1 M2 he (i3 M1 rfl)), (fun e => by cases e), fun M3 e => by cases e; exact i3 _ rfl⟩
    · rw [if_neg hc] at h
      obtain ⟨i1, i2, i3⟩ := ih h
      refine ⟨fun k p hk hm hd hr => ?_, fun e hno => i2 e fun k p hk hm hd hr => ?_, i3⟩
      · cases k with
        | zero =>
          have hp : o = p := by simpa using hk
          subst hp
          rw [Nat.add_zero] at hd hr
          rw [hm, hd, hr] at hc
          exact absurd rfl hc
        | succ k =>
          have := i1 k p (by simpa using hk) hm (by rw [shift]; exact hd) (by rw [shift]; exact hr)
          rw [shift] at this; exact this
      · exact hno (k + 1) p (by simpa using hk) hm (by rw [← shift]; exact hd) (by rw [← shift]; exact hr)
end
section
variable {P : Program} {tt : TT} {callF : FuncId → List AV → Mem → T (AV × Mem)} {N : NB} {n : Nat} {ds : List Deferred} {ops : Array Oper} {mk : Nat → Nat} {st0 : Tmps} {V : DR} {φ0 : Phi} {M0 : Mem} {w0 : World} (tok : TTok P tt) (hc : CallsOk P N callF)
include tok hc
theorem d2s_any (hall : ∀ o ∈ ops.toList, OpOk P n o) (hm : MaskOk ops.toList mk) (hd : dstsOk ops.toList = true) {R : Mem → Prop} (hR : ∀ M1 M', eqM M0 M1 M' = true → R M1 → R M') {QX : Exit → Act → World → Prop}
    (hq : ∀ φ' M' w' a', R M' → TmpsRel φ' (stA V st0 (Nat.sub (Nat.pow 2 ops.toList.length) 1) ops.toList 0) a'.tmps → a'.tmps.size = n → a'.defers = ds → Rep N φ' M' w' → Ext φ0 M0 w0 φ' M' w' → QX .normal a' w') :
    ∀ (fuel : Nat) (listed : Array Bool) (a : Act) (w : World), listed.size = ops.size → unl ops.size listed = fuel →
      (∃ D φ M f, D2S N n ds ops mk st0 V φ0 M0 w0 (fun k => listed.getD k false = true) D φ M w a ∧ (chkS P tt callF ops.toList mk st0 V M0 f D M).holds R (fun _ _ => False)) →
      wpAny P .any ops QX fuel listed a w := by
  have hopen : ∀ {f D : Nat} {M : Mem}, (chkS P tt callF ops.toList mk st0 V M0 f D M).holds R (fun _ _ => False) → ∃ f', (stageS P tt callF ops.toList mk st0 V D M ops.toList 0).holds (fun _ => (brS (chkS P tt callF ops.toList mk st0 V M0 f') P tt callF ops.toList mk st0 V M0 D M ops.toList 0 none).holds R (fun _ _ => False)) (fun _ _ => False) := by
    intro f D M h
    cases f with
    | zero => exact h.elim
    | succ f' =>
      have h : ((stageS P tt callF ops.toList mk st0 V D M ops.toList 0).bind fun _ => brS (chkS P tt callF ops.toList mk st0 V M0 f') P tt callF ops.toList mk st0 V M0 D M ops.toList 0 none).holds R (fun _ _ => False) := h
      rw [T.holds_bind] at h
      exact ⟨f', h⟩
  have hend : ∀ (listed : Array Bool) (a : Act) (w : World), listed.size = ops.size → (∀ k, k < ops.size → listed.getD k false = true) →
      (∃ D φ M f, D2S N n ds ops mk st0 V φ0 M0 w0 (fun k => listed.getD k false = true) D φ M w a ∧ (chkS P tt callF ops.toList mk st0 V M0 f D M).holds R (fun _ _ => False)) → QX .normal a w := by
    rintro listed a w hsz hallL ⟨D, φ, M, f, h, hchk⟩
    obtain ⟨f', hst⟩ := hopen hchk
    have hbr := (stageS_ok _ hst).1
    have hRM := (brS_ok hR _ hbr).2.1 rfl fun k o hk hmv hDk _ => by
      rw [Nat.zero_add] at hDk
      have hk' : ops[k]? = some o := by simpa using hk
      have hlt := (Array.getElem?_eq_some_iff.1 hk').1
      have := (h.wr k o hk' hmv).1 (hallL k hlt)
      rw [hDk] at this; cases this
    exact hq φ M w a hRM (h.tmps (fun i hi _ => hallL i hi)) h.size h.defers h.rep h.ext
  intro fuel
  induction fuel with
  | zero =>
    intro listed a w hsz hu hinv
    have hallL := unl_zero hu
    have hr : Region.ready .any ops listed = [] := by
      rw [List.eq_nil_iff_forall_not_mem]
      intro i hi
      rw [mem_ready] at hi
      obtain ⟨h1, o, ho, _⟩ := hi
      have hlt : i < ops.size := (Array.getElem?_eq_some_iff.1 ho).1
      rw [hallL i hlt] at h1; cases h1
    exact ⟨hr, hend listed a w hsz (fun k hk => by rw [← getD_tf hsz hk]; exact hallL k hk) hinv⟩
  | succ fuel ih =>
    intro listed a w hsz hu hinv
    have hfirst : ∀ i, i < ops.size → listed.getD i false = false → (∀ k, k < i → listed.getD k false = true) → i ∈ Region.ready .any ops listed := by
      intro i hi hni hlt
      rw [mem_ready]
      have ho : ops[i]? = some ops[i] := Array.getElem?_eq_getElem hi
      refine ⟨by rw [getD_tf hsz hi]; exact hni, _, ho, fun e he hb => hlt e.on ?_⟩
      exact hm.lt i e.on (hm.edge i _ (by simpa using ho) e he hb)
    have hleast : ∀ k, listed.getD k false = false → ∃ i, i ≤ k ∧ listed.getD i false = false ∧ ∀ q, q < i → listed.getD q false = true := by
      intro k
      induction k using Nat.strongRecOn with
      | _ k ihk =>
        intro hk
        by_cases hex : ∃ q, q < k ∧ listed.getD q false = false
        · obtain ⟨q, hq1, hq2⟩ := hex
          obtain ⟨i, h1, h2, h3⟩ := ihk q hq1 hq2
          exact ⟨i, by omega, h2, h3⟩
        · refine ⟨k, Nat.le_refl _, hk, fun q hq => ?_⟩
          cases hb : listed.getD q false with
          | true => rfl
          | false => exact (hex ⟨q, hq, hb⟩).elim
    have hset : ∀ i, i < ops.size → ∀ k, (listed.setIfInBounds i true).getD k false = true ↔ listed.getD k false = true ∨ k = i := by
      intro i hi k
      by_cases e : k = i
      · subst e; simp [hsz, hi]
      · rw [getD_set_ne false (Ne.symm e)]; simp [e]
    refine ⟨fun hr => ?_, fun i hi => ?_⟩
    · refine hend listed a w hsz (fun k hk => ?_) hinv
      cases hb : listed.getD k false with
      | true => rfl
      | false =>
        obtain ⟨i, h1, h2, h3⟩ := hleast k hb
        have := hfirst i (by omega) h2 h3
        rw [hr] at this; cases this
    · obtain ⟨D, φ, M, f, h, hchk⟩ := hinv
      have hi' := hi
      rw [mem_ready] at hi'
      obtain ⟨hni, o, ho, hed⟩ := hi'
      have hlt : i < ops.size := (Array.getElem?_eq_some_iff.1 ho).1
      rw [getD_tf hsz hlt] at hni
      have hnl : ¬ listed.getD i false = true := by rw [hni]; simp
      have hanc : ∀ k, Nat.testBit (mk i) k = true → listed.getD k false = true := by
        intro k hk
        obtain ⟨e, hee, hb, hh⟩ := hm.via i o (by simpa using ho) k hk
        rcases hh with hh | rfl
        · exact h.cl _ (hed e hee hb) k hh
        · exact hed e hee hb
      have hT := h.tmpsJ (j := i) (fun k _ hk => hanc k hk) hnl
      have hoo := hall o (by rw [Array.mem_toList_iff]; exact Array.mem_of_getElem? ho)
      have hfun : (fun k => (listed.setIfInBounds i true).getD k false = true) = fun k => listed.getD k false = true ∨ k = i := by
        funext k; exact propext (hset i hlt k)
      have hfuel : unl ops.size (listed.setIfInBounds i true) = fuel := by
        have := unl_set hlt hsz (by rw [getD_tf hsz hlt]; exact hni); omega
      have hol : ops.toList[i]? = some o := by simpa using ho
      obtain ⟨f', hst⟩ := hopen hchk
      have hbr := (stageS_ok _ hst).1
      cases hmo : mvK o with
      | true =>
        have hw : inWS mk D i ops.toList 0 = true := by
          refine inWS_ok _ fun k p hp hmp => ?_
          simp only [Nat.zero_add]
          have hp' : ops[k]? = some p := by simpa using hp
          have hwr := h.wr k p hp' hmp
          refine ⟨fun hk => ?_, fun hk => ?_⟩
          · cases hbt : Nat.testBit (mk k) i with
            | false => rfl
            | true => exact absurd (h.cl k (hwr.2 hk) i hbt) hnl
          · cases hbt : Nat.testBit (mk i) k with
            | false => rfl
            | true =>
              have := hwr.1 (hanc k hbt)
              rw [hk] at this; cases this
        have hev := (stageS_ok _ hst).2 i o hol hmo (by rw [Nat.zero_add]; exact hw)
        rw [Nat.zero_add] at hev
        refine d2_step tok hc hall (A := lockAll M) (show Rep N φ (lockAll M) w from ⟨h.rep.objs, h.rep.sep, h.rep.high, h.rep.fresh, h.rep.size⟩) hT h.size ho hev fun v w' hg => ?_
        obtain ⟨φ', x, M', ⟨e1, e2⟩, hx, hr', he⟩ := hg
        obtain ⟨r1, r2⟩ := rep_locked h.rep he
        refine ih _ _ w' (by simpa using hsz) hfuel ⟨D, φ, M, f, ?_, hchk⟩
        rw [hfun]
        have hx' : AVRel φ (V i).1 v := by
          have := okV_rel e2 hx (fun id hid => he.phi0 id hid)
          rw [← eqAV_ok e1]; exact this
        refine h.more hd ho hoo.1 hnl hanc r1 r2 hx' fun k p hp hmp => ?_
        have := h.wr k p hp hmp
        constructor
        · rintro (hk | rfl)
          · exact this.1 hk
          · rw [ho] at hp; cases hp; rw [hmo] at hmp; cases hmp
        · exact fun hk => .inl (this.2 hk)
      | false =>
        have hDi : Nat.testBit D i = false := by
          cases hb : Nat.testBit D i with
          | false => rfl
          | true => exact absurd ((h.wr i o ho hmo).2 hb) hnl
        have hrd : rdyW mk D i ops.toList 0 = true := by
          refine rdyW_ok _ fun k p hp hmp hbt => ?_
          rw [Nat.zero_add] at hbt ⊢
          exact (h.wr k p (by simpa using hp) hmp).1 (hanc k hbt)
        have hev := (brS_ok hR _ hbr).1 i o hol hmo (by rw [Nat.zero_add]; exact hDi) (by rw [Nat.zero_add]; exact hrd)
        rw [Nat.zero_add] at hev
        refine d2_step tok hc hall h.rep hT h.size ho hev fun v w' hg => ?_
        obtain ⟨φ', x, M', ⟨e1, hrest⟩, hx, hr', he⟩ := hg
        refine ih _ _ w' (by simpa using hsz) hfuel ⟨_, φ', M', f', ?_, hrest⟩
        rw [hfun]
        have hx' : AVRel φ' (V i).1 v := by rw [← eqAV_ok e1]; exact hx
        refine h.more hd ho hoo.1 hnl hanc hr' he hx' fun k p hp hmp => ?_
        have := h.wr k p hp hmp
        have hbit : Nat.testBit (Nat.lor D (Nat.shiftLeft 1 i)) k = (Nat.testBit D k || decide (i = k)) := by
          show Nat.testBit (D ||| (1 <<< i)) k = _
          rw [Nat.testBit_or, Nat.one_shiftLeft, Nat.testBit_two_pow]
        rw [hbit, Bool.or_eq_true_iff, decide_eq_true_iff]
        constructor
        · rintro (hk | rfl)
          · exact .inl (this.1 hk)
          · exact .inr rfl
        · rintro (hk | hk)
          · exact .inl (this.2 hk)
          · exact .inr hk.symm
theorem evDrawT_ok (hmix : P.follows .mixedOrders = true) (hall : ∀ o ∈ ops.toList, OpOk P n o) {Q : Tmps × Mem → Prop} {Qp : AV → Mem → Prop} {QX : Exit → Act → World → Prop} {id : Nat} {a : Act} {w : World} {φ : Phi} {st : Tmps} {M : Mem}
    (h : (evDrawT P tt callF ops.toList st M).holds Q Qp) (hs : StOk N n ds φ M w st a)
    (hq : ∀ φ' M' w' st' a', Q (st', M') → StOk N n ds φ' M' w' st' a' → Ext φ M w φ' M' w' → QX .normal a' w') : (Code.region id ops true).wp P QX a w := by
  obtain ⟨hb, h⟩ := ck_ok h
  rw [masksK_eq] at h
  obtain ⟨he, hb⟩ := Bool.and_eq_true_iff.1 hb
  obtain ⟨hd, hb⟩ := Bool.and_eq_true_iff.1 hb
  obtain ⟨_, hl⟩ := Bool.and_eq_true_iff.1 hb
  have hl : M.lock ≤ M.next := Nat.le_of_ble_eq_true hl
  have hm := maskOk he
  rw [T.holds_bind] at h
  obtain ⟨V, hV, _⟩ := T.leaf (gsD_nopan _ h)
  rw [T.holds_bind] at hV
  have hV := T.nopan_ok hV
  have hno : ∀ k, ¬ (Array.replicate ops.size false).getD k false = true := by
    intro k
    by_cases hk : k < ops.size <;> simp [Array.getD_eq_getD_getElem?, hk]
  refine wp_region_any hmix (d2s_any (R := fun M' => Q (stA V st (Nat.sub (Nat.pow 2 ops.toList.length) 1) ops.toList 0, canonM M M')) (ds := ds) (M0 := M) (st0 := st) (φ0 := φ) (w0 := w.drew) (V := V) (mk := masks ops.toList 0 fun _ => 0) tok hc hall hm hd ?_ ?_ ops.size _ a _ (by simp) (unl_init _) ⟨0, φ, M, _, ?_, hV⟩)
  · intro M1 M' e h
    obtain ⟨_, e2⟩ := Bool.and_eq_true_iff.1 e
    show Q (_, canonM M M')
    rw [← canon_eq (eqObjs_ok _ e2)]
    exact h
  · intro φ' M' w' a' h1 h2 h3 h4 h5 h6
    obtain ⟨r1, r2⟩ := canon_ok hs.rep.draw h5 h6 hl
    exact hq φ' _ w' _ a' h1 ⟨r1, h2, h3, h4⟩ ((Ext.draw φ M w).trans r2)
  · refine ⟨hs.rep.draw, .refl _ _ _, fun k hk => absurd hk (hno k), fun t _ => hs.tmps t, hs.size, hs.defers, fun k hk => absurd hk (hno k), fun k o ho hmo => ⟨fun hk => absurd hk (hno k), fun hk => ?_⟩⟩
    rw [Nat.zero_testBit] at hk; cases hk
end
end Go.Eng

set_option autoImplicit false
namespace Go.Eng
open Go Go.RowKit
section
variable {P : Program} {tt : TT} {callF : FuncId → List AV → Mem → T (AV × Mem)} {N : NB} {n : Nat} {ds : List Deferred} {ops : Array Oper} (tok : TTok P tt) (hc : CallsOk P N callF)
include tok hc
theorem evDrawS_ok (hmix : P.follows .mixedOrders = true) (hall : ∀ o ∈ ops.toList, OpOk P n o) {z : Bool} {big : Nat} {Q : Tmps × Mem → Prop} {Qp : AV → Mem → Prop} {QX : Exit → Act → World → Prop} {id : Nat} {a : Act} {w : World} {φ : Phi} {st : Tmps} {M : Mem}
    (h : (evDrawS P tt callF z big ops.toList st M).holds Q Qp) (hs : StOk N n ds φ M w st a)
    (hq : ∀ φ' M' w' st' a', Q (st', M') → StOk N n ds φ' M' w' st' a' → Ext φ M w φ' M' w' → QX .normal a' w') (hp : PanOk N ds φ M w Qp QX) : (Code.region id ops true).wp P QX a w := by
  unfold evDrawS at h
  rw [forceN_eq, forceN_eq, bif2_eq] at h
  split at h
  · cases hu : pairD (masks ops.toList 0 fun _ => 0) ops.toList ops.toList 0 with
    | some p => rw [hu] at h; exact evDrawT_ok tok hc hmix hall h hs hq
    | none => rw [hu] at h; exact evDraw2_ok tok hc hmix hall h hs hq
  · rw [bif2_eq] at h
    split at h
    · exact evDraw2_ok tok hc hmix hall h hs hq
    · exact evDraw_ok tok hc hmix hall h hs hq hp
end
end Go.Eng

set_option autoImplicit false
namespace Go.Eng
open Go Go.RowKit

def CodeOk (P : Program) (n : Nat) : Code → Prop
  | .region _ ops _ => ∀ o ∈ ops.toList, OpOk P n o
  | .seq a b => CodeOk P n a ∧ CodeOk P n b
  | .cond _ a b => CodeOk P n a ∧ CodeOk P n b
  | .block _ a => CodeOk P n a
  | .loop a => CodeOk P n a
  | _ => True
def exitOf : X → Exit
  | .normal => .normal
  | .exit id => .exit id
  | .ret => .ret

theorem onX_ok {x : Res} {f : Tmps → Mem → T Res} {e : Nat → T Res} {Q : Res → Prop} {Qp : AV → Mem → Prop} (h : (onX x f e).holds Q Qp) :
    (x.1 = .normal ∧ (f x.2.1 x.2.2).holds Q Qp) ∨ (∃ j, x.1 = .exit j ∧ (e j).holds Q Qp) ∨ (x.1 = .ret ∧ Q (.ret, x.2)) := by
  obtain ⟨x, st, M⟩ := x
  cases x with
  | normal => exact .inl ⟨rfl, h⟩
  | exit j => exact .inr (.inl ⟨j, rfl, h⟩)
  | ret => exact .inr (.inr ⟨rfl, h⟩)

theorem evCode_ok {P : Program} {tt : TT} (tok : TTok P tt) {N : NB} {callF : FuncId → List AV → Mem → T (AV × Mem)} (hc : CallsOk P N callF) {roots : List AV} {keep : Keep} {L big n : Nat} (hmix : P.follows .mixedOrders = true) {ds : List Deferred} (c : Code) :
    ∀ {st : Tmps} {M : Mem} {φ : Phi} {w : World} {a : Act} {Q : Res → Prop} {Qp : AV → Mem → Prop} {QX : Exit → Act → World → Prop} (_ : (evCode P tt callF roots keep L big c st M).holds Q Qp) (_ : CodeOk P n c)
    (_ : StOk N n ds φ M w st a) (_ : ∀ x φ' M' w' st' a', Q (x, st', M') → StOk N n ds φ' M' w' st' a' → Ext φ M w φ' M' w' → QX (exitOf x) a' w') (_ : PanOk N ds φ M w Qp QX), c.wp P QX a w := by
  induction c with
  | skip => intro st M φ w a Q Qp QX h _ hs hq hp; exact wp_skip (hq .normal φ M w st a h hs (.refl _ _ _))
  | region id ops draw =>
    intro st M φ w a Q Qp QX h hok hs hq hp
    cases draw with
    | true =>
      have h : ((evDrawS P tt callF keep.z big ops.toList st M).bind fun x => .ret (.normal, x.1, x.2)).holds Q Qp := h
      rw [T.holds_bind] at h
      exact evDrawS_ok tok hc hmix hok h hs (fun φ' M' w' st' a' h1 h2 h3 => hq .normal φ' M' w' st' a' h1 h2 h3) hp
    | false =>
      have h : ((evOps P tt callF ops.toList ops.toList st M).bind fun x => .ret (.normal, x.1, x.2)).holds Q Qp := h
      rw [T.holds_bind] at h
      exact wp_region_list (evOps_ok tok hc hok ops.toList h hok hs (fun φ' M' w' st' a' h1 h2 h3 => hq .normal φ' M' w' st' a' h1 h2 h3) hp)
  | seq x y ihx ihy =>
    intro st M φ w a Q Qp QX h hok hs hq hp
    have h : ((evCode P tt callF roots keep L big x st M).bind fun r => onX r (evCode P tt callF roots keep L big y) fun j => .ret (.exit j, r.2)).holds Q Qp := h
    rw [T.holds_bind] at h
    refine wp_seq (ihx h hok.1 hs ?_ ?_)
    · intro r φ' M' w' st' a' h1 h2 h3
      rcases onX_ok h1 with ⟨e, h1⟩ | ⟨j, e, h1⟩ | ⟨e, h1⟩
      · obtain rfl : r = .normal := e
        exact ihy h1 hok.2 h2 (fun r φ2 M2 w2 st2 a2 k1 k2 k3 => hq r φ2 M2 w2 st2 a2 k1 k2 (h3.trans k3)) (hp.step h3)
      · obtain rfl : r = .exit j := e
        exact hq (.exit j) φ' M' w' st' a' h1 h2 h3
      · obtain rfl : r = .ret := e
        exact hq .ret φ' M' w' st' a' h1 h2 h3
    · exact fun v a' w' h1 h2 => hp v a' w' h1 h2
  | cond cnd x y ihx ihy =>
    intro st M φ w a Q Qp QX h hok hs hq hp
    obtain ⟨b, hb, h⟩ := onB_ok (show (onB (evA st cnd) fun b => .br b (evCode P tt callF roots keep L big x (setB cnd true st) M) (evCode P tt callF roots keep L big y (setB cnd false st) M)).holds Q Qp from h)
    have hx : b = true → (evCode P tt callF roots keep L big x st M).holds Q Qp := fun e => by
      have := h.1 e
      rw [setB_self (by rw [hb, e])] at this
      exact this
    have hy : b = false → (evCode P tt callF roots keep L big y st M).holds Q Qp := fun e => by
      have := h.2 e
      rw [setB_self (by rw [hb, e])] at this
      exact this
    have hv := evA_rel hs.tmps cnd
    rw [hb] at hv
    generalize hgv : a.eval cnd = cv at hv
    cases hv
    exact wp_cond_split hgv (fun e => ihx (hx e) hok.1 hs hq hp) (fun e => ihy (hy e) hok.2 hs hq hp)
  | block id x ih =>
    intro st M φ w a Q Qp QX h hok hs hq hp
    have h : ((evCode P tt callF roots keep L big x st M).bind fun r => onX r (fun st M => .ret (.normal, st, M)) fun j => bif2 (Nat.beq j id) (.ret (.normal, r.2)) (.ret (.exit j, r.2))).holds Q Qp := h
    rw [T.holds_bind] at h
    refine wp_block (ih h hok hs ?_ ?_)
    · intro r φ' M' w' st' a' h1 h2 h3
      rcases onX_ok h1 with ⟨e, h1⟩ | ⟨j, e, h1⟩ | ⟨e, h1⟩
      · obtain rfl : r = .normal := e
        exact hq .normal φ' M' w' st' a' h1 h2 h3
      · obtain rfl : r = .exit j := e
        show Exit.inBlock id QX (.exit j) a' w'
        simp only [Exit.inBlock]
        cases hj : Nat.beq j id with
        | true =>
          rw [hj] at h1
          rw [if_pos (Nat.eq_of_beq_eq_true hj)]
          exact hq .normal φ' M' w' st' a' h1 h2 h3
        | false =>
          rw [hj] at h1
          rw [if_neg (Nat.ne_of_beq_eq_false hj)]
          exact hq (.exit j) φ' M' w' st' a' h1 h2 h3
      · obtain rfl : r = .ret := e
        exact hq .ret φ' M' w' st' a' h1 h2 h3
    · exact fun v a' w' h1 h2 => hp v a' w' h1 h2
  | loop x ih =>
    intro st M φ w a Q Qp QX h hok hs hq hp
    refine wp_loop_rounds L ?_
    have h : (forceN M.next fun base => (@Nat.rec (fun _ => Tmps → Mem → T Res) (fun _ _ => .fail) (fun _ again st M => headF base roots keep st M fun st M => (evCode P tt callF roots keep L big x st M).bind fun r => onX r again fun j => .ret (.exit j, r.2)) L : Tmps → Mem → T Res) st M).holds Q Qp := h
    rw [forceN_eq] at h
    generalize hbase : M.next = base at h
    have key : ∀ (k : Nat) (st1 : Tmps) (M1 : Mem) (φ1 : Phi) (w1 : World) (a1 : Act), ((@Nat.rec (fun _ => Tmps → Mem → T Res) (fun _ _ => .fail) (fun _ again st M => headF base roots keep st M fun st M => (evCode P tt callF roots keep L big x st M).bind fun r => onX r again fun j => .ret (.exit j, r.2)) k : Tmps → Mem → T Res) st1 M1).holds Q Qp →
        StOk N n ds φ1 M1 w1 st1 a1 → Ext φ M w φ1 M1 w1 → Code.rounds P x QX k a1 w1 := by
      intro k
      induction k with
      | zero => intro st1 M1 φ1 w1 a1 h _ _; exact h.elim
      | succ k ihk =>
        intro st1 M1 φ1 w1 a1 h hs1 he1
        rw [rounds_succ]
        have h : (headF base roots keep st1 M1 fun st M => (evCode P tt callF roots keep L big x st M).bind fun r => onX r (@Nat.rec (fun _ => Tmps → Mem → T Res) (fun _ _ => .fail) (fun _ again st M => headF base roots keep st M fun st M => (evCode P tt callF roots keep L big x st M).bind fun r => onX r again fun j => .ret (.exit j, r.2)) k) fun j => .ret (.exit j, r.2)).holds Q Qp := h
        rw [headF_eq] at h
        obtain ⟨ρ, φ2, M2, h, hren, hr2, he2⟩ := compact_ok hs.rep hs1.rep he1 hbase.symm h
        rw [sealIf_eq hr2, T.holds_bind] at h
        have ht2 : TmpsRel φ2 (keepOnly keep.l fun t => ρ (keepOnly keep.l st1 t)) a1.tmps := keepOnly_rel keep.l fun t => hren _ _ (keepOnly_rel keep.l hs1.tmps t)
        refine ih h hok ⟨hr2, ht2, hs1.size, hs1.defers⟩ ?_ ?_
        · intro r φ' M' w' st' a' h1 h2 h3
          rcases onX_ok h1 with ⟨e, h1⟩ | ⟨j, e, h1⟩ | ⟨e, h1⟩
          · obtain rfl : r = .normal := e
            exact ihk st' M' φ' w' a' h1 h2 (he2.trans h3)
          · obtain rfl : r = .exit j := e
            exact hq (.exit j) φ' M' w' st' a' h1 h2 (he2.trans h3)
          · obtain rfl : r = .ret := e
            exact hq .ret φ' M' w' st' a' h1 h2 (he2.trans h3)
        · exact fun v a' w' h1 h2 => (hp.step he2) v a' w' h1 h2
    exact key L st M φ w a h hs (.refl _ _ _)
  | exit id => intro st M φ w a Q Qp QX h _ hs hq hp; exact wp_exit (hq (.exit id) φ M w st a h hs (.refl _ _ _))
  | ret => intro st M φ w a Q Qp QX h _ hs hq hp; exact wp_ret (hq .ret φ M w st a h hs (.refl _ _ _))
  | _ => intro st M φ w a Q Qp QX h; exact h.elim
end Go.Eng

set_option autoImplicit false
namespace Go.Eng
open Go Go.RowKit

def resG (tmps : Array Value) : ResultVar → Sem Value
  | .tmp t => pure (tmps.getD t undef)
  | .cell a t => do loadVar t (← asAddr (tmps.getD a undef))
theorem results_eq (fn : Func) (tmps : Array Value) : results fn tmps = (do let vs ← fn.results.mapM (resG tmps); pure (if h : vs.size = 1 then vs[0] else .tuple vs)) := by
  unfold results
  congr 1

theorem evRes_ok {P : Program} {tt : TT} (tok : TTok P tt) {N : NB} {st : Tmps} {w : World} {tmps : Array Value} (l : List ResultVar) : ∀ {φ : Phi} {M : Mem} (_ : Rep N φ M w) (_ : TmpsRel φ st tmps) {Q : List AV × Mem → Prop} {Qp : AV → Mem → Prop}
    (_ : (evRes tt st l M).holds Q Qp), ∃ zs : List Value, (l.mapM (resG tmps)).run P w = .ok zs w ∧
      ∃ φ' xs M', Q (xs, M') ∧ AVsRel φ' xs zs ∧ Rep N φ' M' w ∧ Ext φ M w φ' M' w := by
  induction l with
  | nil => intro φ M hr hst Q Qp h; exact ⟨[], by simp, φ, [], M, h, .nil, hr, .refl _ _ _⟩
  | cons r l ih =>
    intro φ M hr hst Q Qp h
    have h : ((@ResultVar.casesOn (fun _ => T (AV × Mem)) r (fun t => .ret (st t, M)) (fun a t => evLoad (tt t) M (st a))).bind fun x => (evRes tt st l x.2).bind fun y => .ret (x.1 :: y.1, y.2)).holds Q Qp := h
    rw [T.holds_bind] at h
    cases r with
    | tmp t =>
      have h : ((evRes tt st l M).bind fun y => .ret (st t :: y.1, y.2)).holds Q Qp := h
      rw [T.holds_bind] at h
      obtain ⟨zs, hrun, φ', xs, M', hq, hx, hr', he⟩ := ih hr hst h
      refine ⟨tmps.getD t undef :: zs, ?_, φ', st t :: xs, M', hq, .cons ((hst t).mono he.phi) hx, hr', he⟩
      rw [List.mapM_cons]
      simp only [Sem.run_bind, hrun, Result.andThen_ok, resG, Sem.run_pure]
    | cell a t =>
      have h : (evLoad (tt t) M (st a)).holds (fun x => ((evRes tt st l x.2).bind fun y => .ret (x.1 :: y.1, y.2)).holds Q Qp) Qp := h
      obtain ⟨z, hz, φ1, x, M1, hq, hx, hr1, he1⟩ := evLoad_ok (P := P) tok hr (hst a) h
      rw [T.holds_bind] at hq
      obtain ⟨zs, hrun, φ2, xs, M2, hq2, hx2, hr2, he2⟩ := ih hr1 (hst.mono he1.phi) hq
      refine ⟨z :: zs, ?_, φ2, x :: xs, M2, hq2, .cons (hx.mono he2.phi) hx2, hr2, he1.trans he2⟩
      have hv := hst a
      have ha : ∃ ad, tmps.getD a undef = .pointer (some ad) := by
        generalize tmps.getD a undef = v at hv
        obtain ⟨_, _, _, e, _⟩ := onPtr_ok h
        rw [e] at hv; cases hv; exact ⟨_, rfl⟩
      obtain ⟨ad, had⟩ := ha
      rw [had] at hz
      have hz' : (loadVar t ad).run P w = .ok z w := by simpa [Instr.loadAt, Instr.sureAddr] using hz
      rw [List.mapM_cons]
      simp only [Sem.run_bind, hrun, Result.andThen_ok, resG, Sem.run_pure, had, asAddr, hz']

theorem single_rel {φ : Phi} {xs : List AV} {zs : List Value} {M : Mem} (hx : AVsRel φ xs zs) : AVRel φ (single (xs, M)).1 (if h : zs.length = 1 then zs[0] else .tuple zs.toArray) := by
  cases hx with
  | nil => simp; exact .tup _ _ .nil
  | cons h1 h2 =>
    cases h2 with
    | nil => exact h1
    | cons h3 h4 =>
      rw [dif_neg (by simp)]
      exact .tup _ _ (.cons h1 (.cons h3 h4))
theorem results_ok {P : Program} {tt : TT} (tok : TTok P tt) {N : NB} {st : Tmps} {w : World} {tmps : Array Value} {fn : Func} {φ0 φ : Phi} {M0 M : Mem} {w0 : World} (hr0 : Rep N φ0 M0 w0) (he0 : Ext φ0 M0 w0 φ M w) (hr : Rep N φ M w) (hst : TmpsRel φ st tmps) {base : Nat} (hb : base = M0.next) {roots : List AV} {z : Bool} {Q : AV × Mem → Prop} {Qp : AV → Mem → Prop}
    (h : ((evRes tt st fn.results.toList M).bind (shutF z base roots)).holds Q Qp) : ∃ v, (results fn tmps).run P w = .ok v w ∧ Good N φ0 M0 w0 Q v w := by
  rw [T.holds_bind] at h
  obtain ⟨zs, hrun, φ', xs, M', hq, hx, hr', he⟩ := evRes_ok (P := P) tok _ hr hst h
  obtain ⟨ρ, φ2, M2, hq, hren, hr2, he2⟩ := compact_ok hr0 hr' (he0.trans he) hb (show (compact base (roots ++ xs) M' fun f M => .ret (single (mapL f xs, M))).holds Q Qp by rw [shutF_eq] at hq; exact hq)
  have hq : Q (single (mapL ρ xs, M2)) := hq
  have key : (results fn tmps).run P w = .ok (if h : zs.length = 1 then zs[0] else .tuple zs.toArray) w := by
    rw [results_eq, Array.mapM_eq_mapM_toList]
    simp only [bind_map_left, Sem.run_bind, hrun, Result.andThen_ok]
    simp
  exact ⟨_, key, φ2, (single (mapL ρ xs, M2)).1, M2, by rw [show ((single (mapL ρ xs, M2)).1, M2) = single (mapL ρ xs, M2) from rfl]; exact hq, single_rel (mapRel hren hx), hr2, he2⟩

/-- A function's row of the table. -/
structure FIok (P : Program) (f : FuncId) (fi : FI) : Prop where
  ex : ∃ fn, P.funcs[f]? = some fn ∧ fn.body = some fi.code ∧ fn.results.toList = fi.res ∧ fn.ntmps = fi.n ∧ (fn.name == "runtime.NumGoroutine") = false ∧ CodeOk P fi.n fi.code
def FOk (P : Program) (F : Nat → Option FI) : Prop := ∀ f fi, F f = some fi → FIok P f fi
def SOk (P : Program) (N : NB) (S : Nat → Option (List AV → Mem → T (AV × Mem))) : Prop := ∀ f s, S f = some s → ∀ args M Q Qp, (s args M).holds Q Qp →
  ((∃ fn c, P.funcs[f]? = some fn ∧ fn.body = some c ∧ (fn.name == "runtime.NumGoroutine") = false) ∧
    ∀ φ w zs, Rep N φ M w → AVsRel φ args zs → Calls P f zs.toArray w fun e w' => (∃ v, e = .returned v ∧ Good N φ M w Q v w') ∨ (∃ v, e = .panicked [{ v, recovered := false }] ∧ GoodP N φ M w Qp v w')) ∨
  (∀ φ w zs, Rep N φ M w → AVsRel φ args zs → ∃ v w', (callFunc f zs.toArray).run P w = .ok (.value v) w' ∧ Good N φ M w Q v w')

theorem argTmps_rel {φ : Phi} (l : List AV) : ∀ {zs : List Value} (_ : AVsRel φ l zs) (i : Nat) (tmps : Array Value) (_ : ∀ j v, zs[j]? = some v → tmps.getD (i + j) undef = v), TmpsRel φ (argTmps l i) tmps := by
  induction l with
  | nil => intro zs h i tmps _ t; exact .top _
  | cons x l ih =>
    intro zs h i tmps hz t
    cases h with
    | cons hx ht =>
      show AVRel φ (putA (some i) (argTmps l (i + 1)) x t) _
      rw [putA_eq]
      simp only
      split
      · rename_i e; subst e
        have := hz 0 _ rfl
        simp only [Nat.add_zero] at this
        rw [this]; exact hx
      · exact ih ht (i + 1) tmps (fun j v hj => by have := hz (j + 1) v (by simpa using hj); rwa [show i + (j + 1) = i + 1 + j by omega] at this) t

theorem evBody_ok {P : Program} {tt : TT} (tok : TTok P tt) {N : NB} {callF : FuncId → List AV → Mem → T (AV × Mem)} (hc : CallsOk P N callF) (hmix : P.follows .mixedOrders = true) {L big : Nat} {f : FuncId} {fi : FI} (hf : FIok P f fi) {args : List AV} {M : Mem} {Q : AV × Mem → Prop} {Qp : AV → Mem → Prop}
    (h : (evBody P tt L big callF fi args M).holds Q Qp) {φ : Phi} {w : World} {zs : List Value} (hr : Rep N φ M w) (hz : AVsRel φ args zs) :
    Calls P f zs.toArray w fun e w' => (∃ v, e = .returned v ∧ Good N φ M w Q v w') ∨ (∃ v, e = .panicked [{ v, recovered := false }] ∧ GoodP N φ M w Qp v w') := by
  obtain ⟨fn, h1, h2, h3, hn, h4, h5⟩ := hf.ex
  obtain ⟨hle, h⟩ := br_ok (show (T.br (Nat.ble args.length fi.n) (forceN M.next fun base => (evCode P tt callF args fi.keep L big fi.code (argTmps args 0) M).bind (evEnd base args tt fi)) .fail).holds Q Qp from h)
  rw [forceN_eq, T.holds_bind] at h
  have hlen : zs.length ≤ fn.ntmps := by rw [hn, ← hz.length]; exact Nat.le_of_ble_eq_true hle
  refine calls_of_wp h1 h2 (evCode_ok (n := fi.n) (ds := []) tok hc hmix fi.code h h5 ⟨hr, argTmps_rel args hz 0 _ ?_, ?_, rfl⟩ ?_ ?_)
  · intro j v hj
    have hlt : j < zs.length := (List.getElem?_eq_some_iff.1 hj).1
    simp only [Nat.zero_add, Array.getD_eq_getD_getElem?]
    rw [Array.getElem?_append_left (by simpa using hlt)]
    simp [hj]
  · simp; omega
  · intro x φ' M' w' st' a' hq hs he
    have fin : ((evRes tt st' fi.res M').bind (shutF fi.keep.z M.next args)).holds Q Qp → bodyPost P fn (fun e w' => (∃ v, e = .returned v ∧ Good N φ M w Q v w') ∨ (∃ v, e = .panicked [{ v, recovered := false }] ∧ GoodP N φ M w Qp v w')) .ret a' w' := by
      intro hq
      obtain ⟨v, hv, hg⟩ := results_ok (P := P) (fn := fn) tok hr he hs.rep hs.tmps rfl (by rw [h3]; exact hq)
      exact ⟨hs.defers, v, hv, .inl ⟨v, rfl, hg⟩⟩
    cases x with
    | normal => exact fin hq
    | ret => exact fin hq
    | exit j => exact hq.elim
  · intro v a' w' hd hg
    exact ⟨hd, .inr ⟨v, rfl, hg⟩⟩

theorem evFun_ok {P : Program} {tt : TT} (tok : TTok P tt) {N : NB} {S : Nat → Option (List AV → Mem → T (AV × Mem))} (hS : SOk P N S) {F : Nat → Option FI} (hF : FOk P F) (hmix : P.follows .mixedOrders = true) {L : Nat} (d : Nat) : CallsOk P N (evFun P tt S F L d) := by
  induction d with
  | zero => intro f args M Q Qp h; exact h.elim
  | succ d ih =>
    intro f args M Q Qp h
    have h : (@Option.rec (List AV → Mem → T (AV × Mem)) (fun _ => T (AV × Mem)) (onO (F f) fun fi => evBody P tt L (Nat.pow 2 (Nat.mul 32 d)) (evFun P tt S F L d) fi args M) (fun s => s args M) (S f)).holds Q Qp := h
    cases hs : S f with
    | some s =>
      rw [hs] at h
      exact hS f s hs args M Q Qp h
    | none =>
      rw [hs] at h
      obtain ⟨fi, hfi, h⟩ := onO_ok (show (onO (F f) fun fi => evBody P tt L (Nat.pow 2 (Nat.mul 32 d)) (evFun P tt S F L d) fi args M).holds Q Qp from h)
      have hok := hF f fi hfi
      obtain ⟨fn, h1, h2, h3, hn, h4, h5⟩ := hok.ex
      exact .inl ⟨⟨fn, fi.code, h1, h2, h4⟩, fun φ w zs hr hz => evBody_ok tok ih hmix hok h hr hz⟩
/-- A function that is told by its code. -/
theorem evFun_okA {P : Program} {tt : TT} (tok : TTok P tt) {N : NB} {S : Nat → Option (List AV → Mem → T (AV × Mem))} (hS : SOk P N S) {F : Nat → Option FI} (hF : FOk P F) (hmix : P.follows .mixedOrders = true) {L : Nat} (d : Nat) {f : FuncId} (hs : S f = none) (args : List AV) (M : Mem) (Q : AV × Mem → Prop) (Qp : AV → Mem → Prop)
    (h : (evFun P tt S F L d f args M).holds Q Qp) : (∃ fn c, P.funcs[f]? = some fn ∧ fn.body = some c ∧ (fn.name == "runtime.NumGoroutine") = false) ∧
    ∀ φ w zs, Rep N φ M w → AVsRel φ args zs → Calls P f zs.toArray w fun e w' => (∃ v, e = .returned v ∧ Good N φ M w Q v w') ∨ (∃ v, e = .panicked [{ v, recovered := false }] ∧ GoodP N φ M w Qp v w') := by
  cases d with
  | zero => exact h.elim
  | succ d =>
    have h : (@Option.rec (List AV → Mem → T (AV × Mem)) (fun _ => T (AV × Mem)) (onO (F f) fun fi => evBody P tt L (Nat.pow 2 (Nat.mul 32 d)) (evFun P tt S F L d) fi args M) (fun s => s args M) (S f)).holds Q Qp := h
    rw [hs] at h
    obtain ⟨fi, hfi, h⟩ := onO_ok (show (onO (F f) fun fi => evBody P tt L (Nat.pow 2 (Nat.mul 32 d)) (evFun P tt S F L d) fi args M).holds Q Qp from h)
    have hok := hF f fi hfi
    obtain ⟨fn, h1, h2, h3, hn, h4, h5⟩ := hok.ex
    exact ⟨⟨fn, fi.code, h1, h2, h4⟩, fun φ w zs hr hz => evBody_ok tok (evFun_ok tok hS hF hmix d) hmix hok h hr hz⟩
end Go.Eng

set_option autoImplicit false
namespace Go.Eng
open Go Go.RowKit

/-! ## Tables -/
inductive Tr (α : Type) where
  | none
  | leaf (k : Nat) (x : α)
  | node (k : Nat) (l r : Tr α)
namespace Tr
noncomputable def get {α : Type} (t : Tr α) (i : Nat) : Option α := @Tr.rec α (fun _ => Option α) Option.none (fun k x => bif2 (Nat.beq k i) (some x) Option.none) (fun k _ _ l r => bif2 (Nat.blt i k) l r) t
def All {α : Type} (p : Nat → α → Prop) : Tr α → Prop
  | .none => True
  | .leaf k x => p k x
  | .node _ l r => All p l ∧ All p r
theorem All.get {α : Type} {p : Nat → α → Prop} {t : Tr α} (h : t.All p) {i : Nat} {x : α} (hx : t.get i = some x) : p i x := by
  induction t with
  | none => exact absurd (show (Option.none : Option α) = some x from hx) (by simp)
  | leaf k y =>
    have h2 : bif2 (Nat.beq k i) (some y) Option.none = some x := hx
    rw [bif2_eq] at h2
    clear hx
    split at h2
    · rename_i e
      have := Nat.eq_of_beq_eq_true e
      subst this; cases h2; exact h
    · cases h2
  | node k l r ihl ihr =>
    have hx : bif2 (Nat.blt i k) (l.get i) (r.get i) = some x := hx
    rw [bif2_eq] at hx
    split at hx
    · exact ihl h.1 hx
    · exact ihr h.2 hx
end Tr

def badTI : TI := ⟨.bad, 0, 0, [], .other, false, []⟩
noncomputable def ttOf (t : Tr TI) : TT := fun i => @Option.rec TI (fun _ => TI) badTI (fun x => x) (t.get i)
def mkU (P : Program) : TypeDesc → Und
  | .slice e => .sl e
  | .array n e => .arr n e
  | .struct fds => bif fds.toList.all (fun f => (P.info? f.type).isSome) then .st (fds.toList.map fun f => (f.offset, f.type, P.cellsOf f.type)) else .bad
  | .string => .str
  | .interface _ => .ifc
  | _ => .leaf
def mkK : TypeDesc → CK
  | .int k => .int k
  | .string => .str
  | .bool => .bool
  | .float .f64 => .flt
  | .pointer _ => .ptr
  | .map _ _ => .mp
  | .func _ _ _ => .fnc
  | _ => .other
def mkC (P : Program) (t : TypeId) : TypeDesc → Bool
  | .struct fds => fds.toList.all (fun f => !(f.name == "_")) && (!P.stoodInHeld t && !P.eqGuardType P.depth t)
  | _ => false
def mkTI (P : Program) (t : TypeId) (c : Bool) : TI :=
  match P.underlying t, P.info? t with
  | some d, some i =>
    match i.zero with
    | some z => bif z.cells.size == i.size then ⟨mkU P d, i.size, i.bytes, z.cells.toList.map lift1, mkK d, c && mkC P t d, []⟩ else badTI
    | none => badTI
  | _, _ => badTI
theorem mkTI_ok {P : Program} {t : TypeId} {ti : TI} (h : mkTI P t ti.cmp = { ti with kinds := [] }) (hb : ti.u ≠ .bad) : TIok P t ti := by
  unfold mkTI at h
  split at h
  · rename_i d i hd hi
    split at h
    · rename_i z hz
      cases hs : z.cells.size == i.size with
      | false => rw [hs] at h; exact (hb (congrArg TI.u h).symm).elim
      | true =>
        rw [hs] at h
        have hu : mkU P d = ti.u := congrArg TI.u h
        have h1 : i.size = ti.size := congrArg TI.size h
        have h2 : i.bytes = ti.bytes := congrArg TI.bytes h
        have h3 : z.cells.toList.map lift1 = ti.zero := congrArg TI.zero h
        have h4 : mkK d = ti.kind := congrArg TI.kind h
        have h5 : (ti.cmp && mkC P t d) = ti.cmp := congrArg TI.cmp h
        refine ⟨⟨i, z, hi, h1, h2, hz, h3, by rw [← h1]; simpa using hs⟩, ?_, ?_, ?_⟩
        · rw [← hu] at hb ⊢
          cases d <;> first | exact hd | (refine ⟨_, hd, ?_⟩; rfl) | skip
          · rename_i fds
            have e : mkU P (.struct fds) = bif fds.toList.all (fun f => (P.info? f.type).isSome) then .st (fds.toList.map fun f => (f.offset, f.type, P.cellsOf f.type)) else .bad := rfl
            rw [e] at hb ⊢
            cases hall : fds.toList.all (fun f => (P.info? f.type).isSome) with
            | false => rw [hall] at hb; exact (hb rfl).elim
            | true => exact ⟨fds, hd, rfl, fun f hf => List.all_eq_true.1 hall f hf⟩
          · exact ⟨_, hd⟩
        · rw [← h4]
          cases d with
          | float k => cases k <;> first | exact hd | trivial
          | pointer e => exact ⟨_, hd⟩
          | map k e => exact ⟨_, _, hd⟩
          | func a b c => exact ⟨_, _, _, hd⟩
          | _ => first | exact hd | trivial
        · intro hc
          rw [hc, Bool.true_and] at h5
          cases d with
          | struct fds =>
            obtain ⟨k1, k2⟩ := Bool.and_eq_true_iff.1 (show (fds.toList.all (fun f => !(f.name == "_")) && (!P.stoodInHeld t && !P.eqGuardType P.depth t)) = true from h5)
            obtain ⟨k3, k4⟩ := Bool.and_eq_true_iff.1 k2
            refine ⟨by simpa using k3, by simpa using k4, fun fds' hf f hm => ?_⟩
            rw [hd] at hf
            cases hf
            have := List.all_eq_true.1 k1 f hm
            simpa using this
          | _ => exact absurd h5 (by simp [mkC])
    · exact (hb (congrArg TI.u h).symm).elim
  · exact (hb (congrArg TI.u h).symm).elim
theorem ttOk_of {P : Program} {t : Tr TI} (h : t.All fun k x => mkTI P k x.cmp = { x with kinds := [] }) : TTok P (ttOf t) := by
  intro i hi
  unfold ttOf at hi ⊢
  cases e : t.get i with
  | none => rw [e] at hi; exact (hi rfl).elim
  | some x =>
    rw [e] at hi
    exact mkTI_ok (h.get e) hi

def fiOf (fn : Func) (keep : Keep) : FI := ⟨fn.ntmps, fn.body.getD .skip, fn.results.toList, keep⟩
def opOkB (P : Program) (n : Nat) (o : Oper) : Bool :=
  (match o.dst with | some d => Nat.blt d n | none => true) && (match o.op with | .convert s _ _ => (P.underlying s).isSome | _ => true)
theorem opOkB_ok {P : Program} {n : Nat} {o : Oper} (h : opOkB P n o = true) : OpOk P n o := by
  unfold opOkB at h
  obtain ⟨h1, h2⟩ := Bool.and_eq_true_iff.1 h
  refine ⟨fun d hd => ?_, fun s d x hs => ?_⟩
  · rw [hd] at h1; exact Nat.le_of_ble_eq_true h1
  · rw [hs] at h2; exact Option.isSome_iff_exists.1 h2
noncomputable def codeOkB (P : Program) (n : Nat) (c : Code) : Bool :=
  @Code.rec (fun _ => Bool) true (fun _ ops _ => ops.toList.all (opOkB P n)) (fun _ _ a b => a && b) (fun _ _ _ a b => a && b) (fun _ _ a => a) (fun _ a => a)
    (fun _ _ _ _ _ _ => false) (fun _ => true) (fun _ _ => false) (fun _ => false) (fun _ => false) true (fun _ => false) c
theorem codeOkB_ok {P : Program} {n : Nat} (c : Code) (h : codeOkB P n c = true) : CodeOk P n c := by
  induction c with
  | region id ops draw => exact fun o ho => opOkB_ok (List.all_eq_true.1 h o ho)
  | seq a b iha ihb => obtain ⟨h1, h2⟩ := Bool.and_eq_true_iff.1 h; exact ⟨iha h1, ihb h2⟩
  | cond c a b iha ihb => obtain ⟨h1, h2⟩ := Bool.and_eq_true_iff.1 h; exact ⟨iha h1, ihb h2⟩
  | block id a ih => exact ih h
  | loop a ih => exact ih h
  | _ => first | trivial | cases h
theorem fiOk_of {P : Program} {f : FuncId} {fn : Func} (keep : Keep) (h : P.funcs[f]? = some fn) (hb : (fn.body.isSome && codeOkB P fn.ntmps (fn.body.getD .skip)) && !(fn.name == "runtime.NumGoroutine") = true) : FIok P f (fiOf fn keep) := by
  obtain ⟨hb, hn⟩ := Bool.and_eq_true_iff.1 hb
  obtain ⟨hs, hc⟩ := Bool.and_eq_true_iff.1 hb
  refine ⟨fn, h, ?_, rfl, rfl, by simpa using hn, codeOkB_ok _ hc⟩
  obtain ⟨c, hc⟩ := Option.isSome_iff_exists.1 hs
  simp [fiOf, hc]
theorem fOk_of {P : Program} {t : Tr FI} (h : t.All (FIok P)) : FOk P t.get := fun _ _ hx => h.get hx
end Go.Eng

set_option autoImplicit false
namespace Go.Eng
open Go Go.RowKit

/-! ## Steps of a proof about a tree -/
structure H {α : Type} (x : T α) (Q : α → Prop) (Qp : AV → Mem → Prop) : Prop where
  out : x.holds Q Qp
theorem H.br {α : Type} {b : Bool} {t e : T α} {Q : α → Prop} {Qp : AV → Mem → Prop} (h : b = true → H t Q Qp) (h' : b = false → H e Q Qp) : H (T.br b t e) Q Qp := ⟨fun e => (h e).out, fun e => (h' e).out⟩
theorem H.tt {α : Type} {b : Bool} {t e : T α} {Q : α → Prop} {Qp : AV → Mem → Prop} (hb : b = true) (h : H t Q Qp) : H (T.br b t e) Q Qp := ⟨fun _ => h.out, fun h' => (by rw [hb] at h'; cases h')⟩
theorem H.ff {α : Type} {b : Bool} {t e : T α} {Q : α → Prop} {Qp : AV → Mem → Prop} (hb : b = false) (h : H e Q Qp) : H (T.br b t e) Q Qp := ⟨fun h' => (by rw [hb] at h'; cases h'), fun _ => h.out⟩
theorem H.ck {α : Type} {b : Bool} {t : T α} {Q : α → Prop} {Qp : AV → Mem → Prop} (hb : b = true) (h : H t Q Qp) : H (T.ck b t) Q Qp := ⟨⟨hb, h.out⟩⟩
theorem H.ret {α : Type} {a : α} {Q : α → Prop} {Qp : AV → Mem → Prop} (h : Q a) : H (T.ret a) Q Qp := ⟨h⟩
theorem H.pan {α : Type} {x : AV} {M : Mem} {Q : α → Prop} {Qp : AV → Mem → Prop} (h : Qp x M) : H (T.pan x M : T α) Q Qp := ⟨h⟩
theorem H.mono {α : Type} {x : T α} {Q Q' : α → Prop} {Qp : AV → Mem → Prop} (h : H x Q Qp) (hq : ∀ a, Q a → Q' a) : H x Q' Qp := ⟨T.holds_mono h.out hq fun _ _ h => h⟩
theorem H.bind {α β : Type} {x : T α} {f : α → T β} {Q : β → Prop} {Qp : AV → Mem → Prop} (h : H x (fun a => H (f a) Q Qp) Qp) : H (x.bind f) Q Qp := ⟨by rw [T.holds_bind]; exact T.holds_mono h.out (fun _ h => h.out) fun _ _ h => h⟩
/-- The end of a function's code. -/
structure EndOk (tt : TT) (res : List ResultVar) (M : Mem) (Q : AV × Mem → Prop) (Qp : AV → Mem → Prop) (x : Res) : Prop where
  out : H (@X.casesOn (fun _ => T (List AV × Mem)) x.1 (evRes tt x.2.1 res x.2.2) (fun _ => .fail) (evRes tt x.2.1 res x.2.2)) (fun y => y.2 = M ∧ Q (single (y.1, M))) Qp

theorem compact_same {β : Type} (vals : List AV) (M : Mem) (k : (AV → AV) → Mem → T β) : compact M.next vals M k = k (fun x => x) M := by
  unfold compact
  rw [bif2_eq, if_pos (Nat.beq_refl _)]
theorem mapL_id (l : List AV) : mapL (fun x => x) l = l := by rw [mapL_eq]; simp

/-- A function that lays nothing. -/
theorem evFun_code {P : Program} {tt : TT} {S : Nat → Option (List AV → Mem → T (AV × Mem))} {F : Nat → Option FI} {L d : Nat} {f : FuncId} {fi : FI} {args : List AV} {M : Mem} {Q : AV × Mem → Prop} {Qp : AV → Mem → Prop}
    (hS : S f = none) (hF : F f = some fi) (hn : Nat.ble args.length fi.n = true)
    (h : H (evCode P tt (evFun P tt S F L d) args fi.keep L (Nat.pow 2 (Nat.mul 32 d)) fi.code (argTmps args 0) M) (EndOk tt fi.res M Q Qp) Qp) :
    H (evFun P tt S F L (d + 1) f args M) Q Qp := by
  refine ⟨?_⟩
  show (@Option.rec (List AV → Mem → T (AV × Mem)) (fun _ => T (AV × Mem)) (onO (F f) fun fi => evBody P tt L (Nat.pow 2 (Nat.mul 32 d)) (evFun P tt S F L d) fi args M) (fun s => s args M) (S f)).holds Q Qp
  rw [hS, hF]
  show (T.br (Nat.ble args.length fi.n) (forceN M.next fun base => (evCode P tt (evFun P tt S F L d) args fi.keep L (Nat.pow 2 (Nat.mul 32 d)) fi.code (argTmps args 0) M).bind (evEnd base args tt fi)) .fail).holds Q Qp
  refine (H.tt hn ⟨?_⟩).out
  rw [forceN_eq, T.holds_bind]
  refine T.holds_mono h.out (fun x hx => ?_) fun _ _ h => h
  have key : H (evRes tt x.2.1 fi.res x.2.2) (fun y => y.2 = M ∧ Q (single (y.1, M))) Qp → ((evRes tt x.2.1 fi.res x.2.2).bind (shutF fi.keep.z M.next args)).holds Q Qp := by
    intro hx
    rw [T.holds_bind]
    refine T.holds_mono hx.out (fun y hy => ?_) fun _ _ h => h
    obtain ⟨h1, h2⟩ := hy
    rw [shutF_eq, h1, compact_same, mapL_id]
    exact h2
  obtain ⟨x1, x2, x3⟩ := x
  cases x1 with
  | normal => exact key hx.out
  | ret => exact key hx.out
  | exit j => exact hx.out.out.elim

/-- Contracts out of a tree that they follow from. -/
theorem sOk_of {P : Program} {tt : TT} (tok : TTok P tt) {N : NB} {S0 S : Nat → Option (List AV → Mem → T (AV × Mem))} (h0 : SOk P N S0) {F : Nat → Option FI} (hF : FOk P F) (hmix : P.follows .mixedOrders = true) {L d : Nat}
    (h : ∀ f s, S f = some s → ∀ args M Q Qp, (s args M).holds Q Qp → H (evFun P tt S0 F L d f args M) Q Qp) : SOk P N S := by
  intro f s hs args M Q Qp hq
  exact evFun_ok tok h0 hF hmix d f args M Q Qp (h f s hs args M Q Qp hq).out
theorem sOk_none (P : Program) (N : NB) : SOk P N (fun _ => none) := fun f s h => by cases h

/-- A contract of plain values. -/
noncomputable def pureS (g : List AV → Option AV) : List AV → Mem → T (AV × Mem) := fun args M => onO (g args) fun v => .ret (v, M)
theorem pureS_ok {g : List AV → Option AV} {args : List AV} {M : Mem} {Q : AV × Mem → Prop} {Qp : AV → Mem → Prop} (h : (pureS g args M).holds Q Qp) : ∃ v, g args = some v ∧ Q (v, M) := onO_ok h
end Go.Eng

set_option autoImplicit false
namespace Go.Eng
open Go Go.RowKit

/-! ## What an argument holds -/
/-- The kind of a cell. -/
inductive SK where
  | int (k : IntKind) | bool | str | flt (k : FloatKind) | sl (m : Nat) (ks : Nat → SK)
inductive CellOk (w : World) : SK → Value → Prop
  | int (k : IntKind) (n : Int) (h : (Lit.int k n).wf = true) : CellOk w (.int k) (.int k n)
  | bool (b : Bool) : CellOk w .bool (.bool b)
  | str (s : ByteArray) (h : s.size ≤ maxLen) : CellOk w .str (.string s)
  | flt (k : FloatKind) (b : Nat) (h : (Lit.float k b).wf = true) : CellOk w (.flt k) (.float k b)
  | slnil (m : Nat) (ks : Nat → SK) : CellOk w (.sl m ks) (.slice none 0 0)
  | sl (m : Nat) (ks : Nat → SK) (a : Addr) (len cap : Nat) (z : Nat → Nat → Value) (h1 : len ≤ cap) (h2 : cap ≤ maxLen) (hsp : 0 < len → a.block < w.heap.size ∧ a.spot = none)
      (hz : ∀ j, j < len → ∀ c, c < m → w.cell? ⟨a.block, a.off + (j * m + c), none⟩ = some (z j c)) (hc : ∀ j, j < len → ∀ c, c < m → CellOk w (ks c) (z j c)) : CellOk w (.sl m ks) (.slice (some a) len cap)

def shapeFs (P : Program) (sh : TypeId → Option (List SK)) : List Field → Nat → Option (List SK)
  | [], _ => some []
  | f :: fs, off => (sh f.type).bind fun l => if f.offset = off ∧ l.length = P.cellsOf f.type then (shapeFs P sh fs (off + l.length)).map (l ++ ·) else none
def repL {α : Type} (l : List α) : Nat → List α
  | 0 => []
  | n + 1 => l ++ repL l n
def shapeL (P : Program) : Nat → TypeId → Option (List SK)
  | 0, _ => none
  | g + 1, t => match P.underlying t with
    | some .bool => some [.bool]
    | some (.int k) => some [.int k]
    | some (.float k) => some [.flt k]
    | some .string => some [.str]
    | some (.slice e) => (shapeL P g e).bind fun l => if l.length = P.cellsOf e ∧ 0 < l.length then some [.sl l.length fun c => l.getD c .bool] else none
    | some (.struct fs) => (shapeFs P (shapeL P g) fs.toList 0).bind fun l => if l.length = P.cellsOf t then some l else none
    | some (.array n e) => (shapeL P g e).bind fun l => if l.length = P.cellsOf e ∧ n * l.length = P.cellsOf t then some (repL l n) else none
    | _ => none

def CellsOk (w : World) (ks : List SK) (cs : List Value) : Prop := cs.length = ks.length ∧ ∀ (c : Nat) (k : SK) (v : Value), ks[c]? = some k → cs[c]? = some v → CellOk w k v
theorem CellsOk.one {w : World} {k : SK} {v : Value} (h : CellOk w k v) : CellsOk w [k] [v] := by
  refine ⟨rfl, fun c k' v' hk hv => ?_⟩
  cases c with
  | zero => simp at hk hv; subst hk; subst hv; exact h
  | succ c => simp at hk
theorem CellsOk.app {w : World} {k1 k2 : List SK} {c1 c2 : List Value} (h1 : CellsOk w k1 c1) (h2 : CellsOk w k2 c2) : CellsOk w (k1 ++ k2) (c1 ++ c2) := by
  refine ⟨by simp [h1.1, h2.1], fun c k v hk hv => ?_⟩
  by_cases hc : c < k1.length
  · rw [List.getElem?_append_left hc] at hk
    rw [List.getElem?_append_left (by rw [h1.1]; exact hc)] at hv
    exact h1.2 c k v hk hv
  · rw [List.getElem?_append_right (by omega)] at hk
    rw [List.getElem?_append_right (by rw [h1.1]; omega), h1.1] at hv
    exact h2.2 _ k v hk hv

theorem mapM_some {α β : Type} (f : α → Option β) : ∀ (l : List α) {xs : List β}, l.mapM f = some xs → ∀ a ∈ l, ∃ b, f a = some b
  | [], _, _, a, ha => by cases ha
  | x :: l, xs, h, a, ha => by
    rw [List.mapM_cons] at h
    cases hx : f x with
    | none => rw [hx] at h; cases h
    | some b =>
      rw [hx] at h
      cases hl : l.mapM f with
      | none => simp [hl] at h
      | some ys =>
        rcases List.mem_cons.1 ha with rfl | ha
        · exact ⟨b, hx⟩
        · exact mapM_some f l hl a ha

theorem shapeFs_ok {P : Program} {w : World} {sh : TypeId → Option (List SK)} {cs : List Value} (fs : List Field) (hf : ∀ f ∈ fs, ∀ l, sh f.type = some l → CellsOk w l ((cs.drop f.offset).take (P.cellsOf f.type))) :
    ∀ {off : Nat} {ks : List SK}, shapeFs P sh fs off = some ks → CellsOk w ks ((cs.drop off).take ks.length) := by
  induction fs with
  | nil => intro off ks h; cases h; exact ⟨by simp, fun c k v hk => by simp at hk⟩
  | cons f fs ih =>
    intro off ks h
    simp only [shapeFs, Option.bind_eq_some_iff] at h
    obtain ⟨l, hl, h⟩ := h
    split at h
    · rename_i hc
      obtain ⟨ks', hks, rfl⟩ := Option.map_eq_some_iff.1 h
      have h1 := hf f (by simp) l hl
      rw [hc.1, ← hc.2] at h1
      have h2 := ih (fun f hf' => hf f (by simp [hf'])) hks
      have := h1.app h2
      rw [List.length_append]
      rw [show ((cs.drop off).take l.length) ++ ((cs.drop (off + l.length)).take ks'.length) = (cs.drop off).take (l.length + ks'.length) by
        rw [List.take_add, List.drop_drop]] at this
      exact this
    · cases h
theorem repL_ok {w : World} {l : List SK} {cs : List Value} (n : Nat) : ∀ (m : Nat), (∀ i, i < n → CellsOk w l ((cs.drop ((m + i) * l.length)).take l.length)) → CellsOk w (repL l n) ((cs.drop (m * l.length)).take (n * l.length)) := by
  induction n with
  | zero => intro m _; exact ⟨by simp [repL], fun c k v hk => by simp [repL] at hk⟩
  | succ n ih =>
    intro m h
    have h1 := h 0 (by omega)
    have h2 := ih (m + 1) (fun i hi => by have := h (i + 1) (by omega); rwa [show m + (i + 1) = m + 1 + i by omega] at this)
    have := h1.app h2
    rw [Nat.add_zero, Nat.add_mul m 1, Nat.one_mul] at this
    rw [Nat.add_mul n 1, Nat.one_mul, Nat.add_comm (n * l.length)]
    rw [← List.drop_drop, ← List.take_add] at this
    exact this
theorem repL_length {α : Type} (l : List α) (n : Nat) : (repL l n).length = n * l.length := by
  induction n with
  | zero => simp [repL]
  | succ n ih => simp [repL, ih, Nat.add_mul]; omega

theorem cells?_get {w : World} {a : Addr} {n : Nat} {cs : List Value} (h : w.cells? 0 a n = some cs) : cs.length = n ∧ ∀ i, i < n → ∃ v, cs[i]? = some v ∧ w.cell? (a.add i) = some v := by
  unfold World.cells? at h
  rw [if_pos (Nat.zero_le _)] at h
  have key : ∀ (l : List Nat) (cs : List Value), l.mapM (fun i => w.cell? (a.add i)) = some cs → cs.length = l.length ∧ ∀ (i x : Nat), l[i]? = some x → ∃ v, cs[i]? = some v ∧ w.cell? (a.add x) = some v := by
    intro l
    induction l with
    | nil => intro cs h; simp at h; subst h; simp
    | cons x l ih =>
      intro cs h
      rw [List.mapM_cons] at h
      cases hx : w.cell? (a.add x) with
      | none => rw [hx] at h; cases h
      | some v =>
        rw [hx] at h
        cases hl : l.mapM (fun i => w.cell? (a.add i)) with
        | none => simp [hl] at h
        | some ys =>
          simp [hl] at h
          subst h
          obtain ⟨h1, h2⟩ := ih ys hl
          refine ⟨by simp [h1], fun i y hy => ?_⟩
          cases i with
          | zero => simp at hy; subst hy; exact ⟨v, rfl, hx⟩
          | succ i => simp at hy; simpa using h2 i y hy
  obtain ⟨h1, h2⟩ := key _ _ h
  rw [List.length_range] at h1
  exact ⟨h1, fun i hi => h2 i i (by simp [List.getElem?_range hi])⟩
theorem cell?_spot {w : World} {a : Addr} {v : Value} (h : w.cell? a = some v) : a.block < w.heap.size ∧ a.spot = none := by
  refine ⟨?_, ?_⟩
  · rcases Nat.lt_or_ge a.block w.heap.size with h' | h'
    · exact h'
    · simp [World.cell?, Array.getElem?_eq_none h'] at h
  · cases hs : a.spot with
    | none => rfl
    | some x =>
      unfold World.cell? at h
      split at h
      · simp [hs] at h
      · cases h

theorem trod_float {Hh : Type} {enc : TypeId × Value → Hh} {P : Program} {w : World} {base : Nat} {sp : Nat → Bool} {held : Bool} {fuel : Nat} {t : TypeId} {cs : List Value} {x : DataW Hh × List MemPlace} {k : FloatKind} (ht : P.underlying t = some (.float k)) (h : DataW.trod enc P w base sp held fuel t cs = some x) : ∃ n, cs = [.float k n] ∧ (Lit.float k n).wf = true := by
  cases fuel with
  | zero => simp [DataW.trod] at h
  | succ n =>
    unfold DataW.trod at h
    rw [ht] at h
    split at h <;> simp_all
theorem trod_cells {Hh : Type} {enc : TypeId × Value → Hh} {P : Program} {w : World} {sp : Nat → Bool} {held : Bool} (fuel : Nat) : ∀ {t : TypeId} {cs : List Value} {x : DataW Hh × List MemPlace}, DataW.trod enc P w 0 sp held fuel t cs = some x →
    ∀ {g : Nat} {ks : List SK}, shapeL P g t = some ks → CellsOk w ks cs := by
  induction fuel with
  | zero => intro t cs x h; simp [DataW.trod] at h
  | succ fuel ih =>
    intro t cs x h g ks hk
    cases g with
    | zero => simp [shapeL] at hk
    | succ g =>
      unfold shapeL at hk
      cases hd : P.underlying t with
      | none => rw [hd] at hk; cases hk
      | some d =>
        rw [hd] at hk
        cases d with
        | bool =>
          cases hk
          obtain ⟨b, rfl, _⟩ := DataW.trod_bool hd h
          exact .one (.bool _)
        | int k =>
          cases hk
          obtain ⟨b, rfl, _, hw⟩ := DataW.trod_int hd h
          exact .one (.int _ _ hw)
        | float k =>
          cases hk
          obtain ⟨b, rfl, hw⟩ := trod_float hd h
          exact .one (.flt _ _ hw)
        | string =>
          cases hk
          obtain ⟨s, rfl, _, hs⟩ := DataW.trod_string hd h
          exact .one (.str _ hs)
        | slice e =>
          obtain ⟨l, hl, hk⟩ := Option.bind_eq_some_iff.1 hk
          split at hk
          · rename_i hc
            cases hk
            rcases DataW.trod_slice hd h with ⟨rfl, _⟩ | ⟨a, len, cap, elems, rest, n, hn, rfl, _, _, h1, h2, h3, h4, _⟩
            · exact .one (.slnil _ _)
            · obtain rfl : fuel = n := by omega
              have each : ∀ j, j < len → ∃ csj, w.cells? 0 (a.add (j * P.cellsOf e)) (P.cellsOf e) = some csj ∧ CellsOk w l csj := by
                intro j hj
                have := h4 j hj
                rw [List.getElem?_eq_getElem (by omega)] at this
                obtain ⟨csj, hcs, ht⟩ := Option.bind_eq_some_iff.1 this
                exact ⟨csj, hcs, ih ht hl⟩
              have hsp : 0 < len → a.block < w.heap.size ∧ a.spot = none := by
                intro hp
                obtain ⟨csj, hcs, _⟩ := each 0 hp
                obtain ⟨_, hg⟩ := cells?_get hcs
                obtain ⟨v, _, hv⟩ := hg 0 (by omega)
                simp only [Nat.zero_mul, Addr.add, if_true] at hv
                exact cell?_spot hv
              have hcell : ∀ j, j < len → ∀ c, c < l.length → ∃ v k, w.cell? ⟨a.block, a.off + (j * l.length + c), none⟩ = some v ∧ l[c]? = some k ∧ CellOk w k v := by
                intro j hj c hc'
                obtain ⟨csj, hcs, hok⟩ := each j hj
                obtain ⟨hlen, hg⟩ := cells?_get hcs
                obtain ⟨v, hv, hcl⟩ := hg c (by omega)
                refine ⟨v, l[c], ?_, List.getElem?_eq_getElem hc', hok.2 c _ v (List.getElem?_eq_getElem hc') hv⟩
                have hs := (hsp (by omega)).2
                rw [← hcl, ← hc.1]
                congr 1
                cases a with
                | mk b o s =>
                  simp only at hs
                  subst hs
                  simp only [Addr.add_lit]
                  congr 1
                  omega
              refine .one (.sl l.length _ a len cap (fun j c => (w.cell? ⟨a.block, a.off + (j * l.length + c), none⟩).getD undef) h1 h2 hsp ?_ ?_)
              · intro j hj c hc'
                obtain ⟨v, k, h5, _, _⟩ := hcell j hj c hc'
                rw [h5]; rfl
              · intro j hj c hc'
                obtain ⟨v, k, h5, h6, h7⟩ := hcell j hj c hc'
                rw [h5]
                simp only [List.getD_eq_getElem?_getD, h6, Option.getD_some]
                exact h7
          · cases hk
        | struct fs =>
          obtain ⟨l, hl, hk⟩ := Option.bind_eq_some_iff.1 hk
          split at hk
          · rename_i hc
            cases hk
            obtain ⟨xs, n, hn, _, hlen, hxs, hf⟩ := DataW.trod_struct hd h
            obtain rfl : fuel = n := by omega
            have := shapeFs_ok (w := w) (cs := cs) fs.toList (fun f hfm l' hl' => by
              obtain ⟨i, hi⟩ := List.getElem?_of_mem hfm
              have hi' : fs[i]? = some f := by simpa using hi
              have h5 := hf i f hi'
              have hlt := (Array.getElem?_eq_some_iff.1 hi').1
              rw [List.getElem?_eq_getElem (by omega)] at h5
              exact ih h5 hl') hl
            rw [hc, ← hlen, List.drop_zero, List.take_length] at this
            exact this
          · cases hk
        | array n e =>
          obtain ⟨l, hl, hk⟩ := Option.bind_eq_some_iff.1 hk
          split at hk
          · rename_i hc
            cases hk
            obtain ⟨xs, m, hn, _, hlen, hxs, hf⟩ := DataW.trod_array hd h
            obtain rfl : fuel = m := by omega
            have := repL_ok (w := w) (l := l) (cs := cs) n 0 (fun i hi => by
              have h5 := hf i hi
              rw [List.getElem?_eq_getElem (by omega)] at h5
              have := ih h5 hl
              rw [Nat.zero_add, hc.1]
              exact this)
            rw [hc.2, ← hlen, Nat.zero_mul, List.drop_zero, List.take_length] at this
            exact this
          · cases hk
        | _ => cases hk
end Go.Eng
