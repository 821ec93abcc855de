/- Lemmas about the evaluator of the code. -/
import Derived.Test.YtiokhipgpfeoeaaEngY
set_option linter.all false
set_option linter.deprecated false
set_option autoImplicit false
namespace Go.Eng
open Go Go.RowKit

/-! ## Contracts of functions that read objects, and lay new ones -/
noncomputable def dedupL (l : List Nat) : List Nat := @List.rec Nat (fun _ => List Nat) [] (fun x _ ih => bif2 (memN x ih) ih (x :: ih)) l
def flatO : AObj → Bool
  | .dead => false
  | .ro .. => true
  | .own _ _ cells => cells.all plain0
  | .vec .. => true
noncomputable def backI (ids : List Nat) (next j : Nat) : Nat := @Option.rec Nat (fun _ => Nat) (next + (j - ids.length)) (fun x => x) (nth? ids j)
noncomputable def addO (M : Mem) (l : List AObj) : Mem := ⟨M.next + l.length, M.lock, fun id => bif2 (Nat.blt id M.next) (M.get id) (nthO l (id - M.next))⟩
noncomputable def viewK (g : List AV → List AObj → T (AV × List AObj)) (ids : List Nat) (args : List AV) (M : Mem) : T (AV × Mem) :=
  .ck (ids.all (fun i => Nat.blt i M.next) && (mapL M.get ids).all flatO) ((T.nopan (g (mapL (ren1 fun id => idxOf ids id 0) args) (mapL M.get ids))).bind fun r =>
    .ck (r.2.all flatO) (.ret (ren1 (fun j => some (backI ids M.next j)) r.1, addO M r.2)))
noncomputable def viewS (g : List AV → List AObj → T (AV × List AObj)) : List AV → Mem → T (AV × Mem) := fun args M => viewK g (dedupL (catL ids1 args)) args M
/-- What a run leaves behind its arguments' objects. -/
noncomputable def resV (k : Nat) (x : AV × Mem) : AV × List AObj := (x.1, (mapL x.2.get (iota x.2.next)).drop k)

theorem idxOf_spec (l : List Nat) (id : Nat) : ∀ (b j : Nat), idxOf l id b = some j → b ≤ j ∧ l[j - b]? = some id := by
  induction l with
  | nil => intro b j h; cases h
  | cons x l ih =>
    intro b j h
    have h : bif2 (Nat.beq x id) (some b) (idxOf l id (b + 1)) = some j := h
    rw [bif2_eq] at h
    split at h
    · rename_i e
      cases h
      exact ⟨Nat.le_refl _, by rw [Nat.sub_self]; exact congrArg some (Nat.eq_of_beq_eq_true e)⟩
    · obtain ⟨h1, h2⟩ := ih (b + 1) j h
      refine ⟨by omega, ?_⟩
      rw [show j - b = (j - (b + 1)) + 1 by omega]
      exact h2
theorem memN_iff (x : Nat) (l : List Nat) : memN x l = true ↔ x ∈ l := by
  induction l with
  | nil => exact ⟨fun h => (nomatch h), fun h => (nomatch h)⟩
  | cons y l ih =>
    have e : memN x (y :: l) = bif2 (Nat.beq y x) true (memN x l) := rfl
    rw [e, bif2_eq]
    split
    · rename_i h; simp [Nat.eq_of_beq_eq_true h]
    · rename_i h
      have : y ≠ x := fun e => h (by subst e; exact Nat.beq_refl _)
      rw [ih, List.mem_cons]
      exact ⟨.inr, fun h => h.resolve_left (Ne.symm this)⟩
theorem nodup_get {l : List Nat} (h : l.Nodup) : ∀ {j j' i : Nat}, l[j]? = some i → l[j']? = some i → j = j' := by
  induction l with
  | nil => intro j j' i h; simp at h
  | cons x l ih =>
    obtain ⟨h1, h2⟩ := List.nodup_cons.1 h
    intro j j' i a b
    cases j with
    | zero =>
      cases j' with
      | zero => rfl
      | succ j' => simp at a b; subst a; exact (h1 (List.mem_of_getElem? b)).elim
    | succ j =>
      cases j' with
      | zero => simp at a b; subst b; exact (h1 (List.mem_of_getElem? a)).elim
      | succ j' => exact congrArg (· + 1) (ih h2 (i := i) (by simpa using a) (by simpa using b))
theorem dedupL_nodup (l : List Nat) : (dedupL l).Nodup := by
  induction l with
  | nil => exact .nil
  | cons x l ih =>
    have e : dedupL (x :: l) = bif2 (memN x (dedupL l)) (dedupL l) (x :: dedupL l) := rfl
    rw [e, bif2_eq]
    split
    · exact ih
    · rename_i h
      exact List.nodup_cons.2 ⟨fun hx => h ((memN_iff _ _).2 hx), ih⟩
theorem ObjRel.move {N : Nat} {φ φ' : Phi} {w : World} {id id' : Nat} {o : AObj} (hf : flatO o = true) (e : φ' id' = φ id) (h : ObjRel N φ w id o) : ObjRel N φ' w id' o := by
  cases o with
  | dead => trivial
  | ro nil n cols => obtain ⟨h1, x, h2, h3⟩ := h; exact ⟨h1, x, e.trans h2, h3⟩
  | own el rs cells =>
    obtain ⟨p, h1, h2, h3, h4, h5, h6⟩ := h
    refine ⟨p, e.trans h1, h2, h3, h4, h5, fun j a hj => ?_⟩
    obtain ⟨z, hz, ha⟩ := h6 j a hj
    have hp : plain0 a = true := List.all_eq_true.1 hf a (List.mem_of_getElem? hj)
    exact ⟨z, hz, plain0_rel hp ha⟩
  | vec el n cols => obtain ⟨h1, p, h2, h3⟩ := h; exact ⟨h1, p, e.trans h2, h3⟩

theorem sOk_view {P : Program} {tt : TT} (tok : TTok P tt) {F : Nat → Option FI} (hF : FOk P F) (hmix : P.follows .mixedOrders = true) {N : Nat} {S R : Nat → Option (List AV → Mem → T (AV × Mem))} (h0 : SOk P N S) (hR : SOk P N R) {L d n : Nat}
    {g : List AV → List AObj → T (AV × List AObj)} (h : ∀ args objs Q, (g args objs).holds Q (fun _ _ => False) → H (evFun P tt S F L d n args (memL objs.length objs)) (fun x => Q (resV objs.length x)) (fun _ _ => False)) (hSn : S n = none := by kernel_rfl) :
    SOk P N (fun f => bif2 (Nat.beq f n) (some (viewS g)) (R f)) := by
  intro f s hs args M Q Qp hq
  simp only [bif2_eq] at hs
  split at hs
  case isFalse => exact hR f s hs args M Q Qp hq
  rename_i hf
  obtain rfl : f = n := Nat.eq_of_beq_eq_true hf
  cases hs
  have hq : (viewK g (dedupL (catL ids1 args)) args M).holds Q Qp := hq
  have hnd := dedupL_nodup (catL ids1 args)
  revert hq hnd
  generalize dedupL (catL ids1 args) = ids
  intro hq hnd
  unfold viewK at hq
  obtain ⟨hck, hq⟩ := ck_ok hq
  obtain ⟨hlt, hfl⟩ := Bool.and_eq_true_iff.1 hck
  have hlt : ∀ i ∈ ids, i < M.next := fun i hi => by have := List.all_eq_true.1 hlt i hi; simpa [Nat.blt_eq] using this
  rw [mapL_eq M.get] at hq hfl
  have hfl : ∀ i ∈ ids, flatO (M.get i) = true := fun i hi => List.all_eq_true.1 hfl _ (List.mem_map.2 ⟨i, hi, rfl⟩)
  rw [T.holds_bind] at hq
  have hq := T.nopan_ok hq
  have hrun := h _ _ _ hq
  rw [List.length_map] at hrun
  obtain ⟨k1, k2⟩ := evFun_okA tok h0 hF hmix d hSn _ _ _ _ hrun.out
  refine .inl ⟨k1, fun φ w zs hr hz => ?_⟩
  -- the memory of the arguments alone
  let φ1 : Phi := fun j => (ids[j]?).bind φ
  have hφ1 : ∀ j i, ids[j]? = some i → φ1 j = φ i := fun j i e => by show (ids[j]?).bind φ = _; rw [e]; rfl
  have hget : ∀ j, nthO (ids.map M.get) j = ((ids[j]?).map M.get).getD .dead := fun j => by
    unfold nthO
    rw [nth?_eq, List.getElem?_map]
    cases ids[j]? <;> rfl
  have hr1 : Rep N φ1 (memL ids.length (ids.map M.get)) w := by
    refine ⟨fun j => ?_, fun j j' p p' ho ho' hp hp' e => ?_, fun j p ho hp => ?_, fun j hj => ?_, hr.size⟩
    · show ObjRel N φ1 w j (nthO (ids.map M.get) j)
      rw [hget]
      cases e : ids[j]? with
      | none => trivial
      | some i => exact (hr.objs i).move (hfl i (List.mem_of_getElem? e)) (hφ1 j i e)
    · have ho : isOwn (nthO (ids.map M.get) j) := ho
      have ho' : isOwn (nthO (ids.map M.get) j') := ho'
      rw [hget] at ho ho'
      cases ei : ids[j]? with
      | none => rw [ei] at ho; exact ho.elim
      | some i =>
        cases ei' : ids[j']? with
        | none => rw [ei'] at ho'; exact ho'.elim
        | some i' =>
          rw [ei] at ho; rw [ei'] at ho'
          rw [hφ1 j i ei] at hp; rw [hφ1 j' i' ei'] at hp'
          have := hr.sep i i' p p' ho ho' hp hp' e
          subst this
          exact nodup_get hnd ei ei'
    · have ho : isOwn (nthO (ids.map M.get) j) := ho
      rw [hget] at ho
      cases ei : ids[j]? with
      | none => rw [ei] at ho; exact ho.elim
      | some i => rw [ei] at ho; rw [hφ1 j i ei] at hp; exact hr.high i p ho hp
    · have hj : ids.length ≤ j := by simpa [memL] using hj
      have e : ids[j]? = none := List.getElem?_eq_none hj
      refine ⟨?_, by show (ids[j]?).bind φ = none; rw [e]; rfl⟩
      show nthO (ids.map M.get) j = .dead
      rw [hget, e]; rfl
  have hren : RenOk φ φ1 fun id => idxOf ids id 0 := fun id j e => by
    obtain ⟨_, e⟩ := idxOf_spec ids id 0 j e
    exact hφ1 j id (by simpa using e)
  refine (k2 φ1 w zs hr1 (ren1s_rel hren hz)).mono fun e w' he => ?_
  rcases he with ⟨u, rfl, φ', x, M', hx, hxu, hr', he⟩ | ⟨u, rfl, φ', x, M', hx, _⟩
  case inr => exact hx.elim
  obtain ⟨hfn, hx⟩ := ck_ok hx
  have hnext : ids.length ≤ M'.next := by have := he.next; simpa [memL] using this
  -- what is as it was
  have hkeep : ∀ b, b < w.heap.size → w'.heap[b]? = w.heap[b]? := fun b hb => he.keep b hb fun id p hl ho _ => by
    have : (memL ids.length (ids.map M.get)).get id = .dead := (hr1.fresh id (by simpa [memL] using hl)).1
    rw [this] at ho; exact ho.elim
  let news := (mapL M'.get (iota M'.next)).drop ids.length
  have hnews : ∀ i, news[i]? = if ids.length + i < M'.next then some (M'.get (ids.length + i)) else none := by
    intro i
    show ((mapL M'.get (iota M'.next)).drop ids.length)[i]? = _
    rw [mapL_eq, iota_eq, List.getElem?_drop, List.getElem?_map]
    split
    · rename_i hlt; rw [List.getElem?_range hlt]; rfl
    · rename_i hlt; rw [List.getElem?_eq_none (by simpa using hlt)]; rfl
  have hnlen : news.length = M'.next - ids.length := by
    show ((mapL M'.get (iota M'.next)).drop ids.length).length = _
    rw [mapL_eq, iota_eq]; simp
  let φ2 : Phi := fun id => if id < M.next then φ id else φ' (ids.length + (id - M.next))
  have hφ2 : ∀ id, id < M.next → φ2 id = φ id := fun id hid => if_pos hid
  have hφ2' : ∀ id, ¬ id < M.next → φ2 id = φ' (ids.length + (id - M.next)) := fun id hid => if_neg hid
  have hle : PhiLe φ φ2 := fun id y e => by
    rcases Nat.lt_or_ge id M.next with h1 | h1
    · rw [hφ2 id h1]; exact e
    · rw [(hr.fresh id h1).2] at e; cases e
  have hback : RenOk φ' φ2 fun j => some (backI ids M.next j) := fun id j e => by
    cases e
    unfold backI
    rw [nth?_eq]
    cases ei : ids[id]? with
    | some i =>
      have hlti := hlt i (List.mem_of_getElem? ei)
      show φ2 i = φ' id
      rw [hφ2 i hlti, he.phi0 id (by have := (List.getElem?_eq_some_iff.1 ei).1; simpa [memL] using this), hφ1 id i ei]
    | none =>
      have : ids.length ≤ id := List.getElem?_eq_none_iff.1 ei
      show φ2 (M.next + (id - ids.length)) = φ' id
      rw [hφ2' _ (by omega)]
      congr 1; omega
  have haget : ∀ id, (addO M news).get id = if id < M.next then M.get id else nthO news (id - M.next) := fun id => by
    show bif2 (Nat.blt id M.next) (M.get id) (nthO news (id - M.next)) = _
    rw [bif2_eq]
    by_cases h1 : id < M.next
    · rw [if_pos h1, if_pos (by simpa [Nat.blt_eq] using h1)]
    · rw [if_neg h1, if_neg (by simpa [Nat.blt_eq] using h1)]
  have hnth : ∀ i, nthO news i = M'.get (ids.length + i) := fun i => by
    unfold nthO
    rw [nth?_eq, hnews]
    split
    · rfl
    · rename_i h1; exact ((hr'.fresh _ (by omega)).1).symm
  have hbnew : ∀ j p, ids.length ≤ j → isOwn (M'.get j) → φ' j = some (some p) → w.heap.size ≤ p.b := fun j p hj ho hp => by
    rcases Nat.lt_or_ge p.b w.heap.size with h1 | h1
    · obtain ⟨id', p', o1, _, _, o4⟩ := he.old j p ho hp h1
      have hl := o4 hj
      have : (memL ids.length (ids.map M.get)).get id' = .dead := (hr1.fresh id' (by simpa [memL] using hl)).1
      rw [this] at o1; exact o1.elim
    · exact h1
  have hbold : ∀ id p, isOwn (M.get id) → φ id = some (some p) → p.b < w.heap.size := fun id p ho hp => hr.lt id p ho hp
  refine .inl ⟨u, rfl, φ2, _, addO M news, hx, ren1_rel hback hxu, ?_, ?_⟩
  · refine ⟨fun id => ?_, fun id id' p p' ho ho' hp hp' e => ?_, fun id p ho hp => ?_, fun id hid => ?_, Nat.le_trans hr.size he.size⟩
    · rw [haget]
      split
      · exact (hr.objs id).step hle (fun b hb => hkeep b (Nat.lt_of_lt_of_le hb hr.size)) (fun ho p hp => hkeep _ (hr.lt id p ho hp))
      · rename_i h1
        rw [hnth]
        have hfl2 : M'.get (ids.length + (id - M.next)) = .dead ∨ flatO (M'.get (ids.length + (id - M.next))) = true := by
          rcases Nat.lt_or_ge (ids.length + (id - M.next)) M'.next with h2 | h2
          · refine .inr (List.all_eq_true.1 hfn _ (List.mem_of_getElem? (i := id - M.next) ?_))
            show news[id - M.next]? = _
            rw [hnews, if_pos h2]
          · exact .inl (hr'.fresh _ h2).1
        rcases hfl2 with h3 | h3
        · rw [h3]; trivial
        · exact (hr'.objs _).move h3 (hφ2' id h1)
    · rw [haget] at ho ho'
      by_cases h1 : id < M.next
      · rw [if_pos h1] at ho
        rw [hφ2 id h1] at hp
        by_cases h2 : id' < M.next
        · rw [if_pos h2] at ho'
          rw [hφ2 id' h2] at hp'
          exact hr.sep id id' p p' ho ho' hp hp' e
        · rw [if_neg h2, hnth] at ho'
          rw [hφ2' id' h2] at hp'
          have a := hbold id p ho hp
          have b := hbnew _ p' (by omega) ho' hp'
          omega
      · rw [if_neg h1, hnth] at ho
        rw [hφ2' id h1] at hp
        by_cases h2 : id' < M.next
        · rw [if_pos h2] at ho'
          rw [hφ2 id' h2] at hp'
          have a := hbold id' p' ho' hp'
          have b := hbnew _ p (by omega) ho hp
          omega
        · rw [if_neg h2, hnth] at ho'
          rw [hφ2' id' h2] at hp'
          have := hr'.sep _ _ p p' ho ho' hp hp' e
          omega
    · rw [haget] at ho
      by_cases h1 : id < M.next
      · rw [if_pos h1] at ho; rw [hφ2 id h1] at hp; exact hr.high id p ho hp
      · rw [if_neg h1, hnth] at ho; rw [hφ2' id h1] at hp
        have b := hbnew _ p (by omega) ho hp
        exact Nat.le_trans hr.size b
    · have hid : M.next + news.length ≤ id := hid
      rw [haget, if_neg (by omega), hφ2' id (by omega), hnth]
      exact hr'.fresh _ (by omega)
  · refine ⟨hle, hφ2, Nat.le_add_right _ _, rfl, he.os, he.tape, he.output, he.size, fun b hb _ => hkeep b hb, fun id p ho hp hb => ?_⟩
    rw [haget] at ho
    by_cases h1 : id < M.next
    · rw [if_pos h1] at ho; rw [hφ2 id h1] at hp
      exact ⟨id, p, ho, hp, rfl, fun h => h⟩
    · rw [if_neg h1, hnth] at ho; rw [hφ2' id h1] at hp
      have b := hbnew _ p (by omega) ho hp
      omega
end Go.Eng
