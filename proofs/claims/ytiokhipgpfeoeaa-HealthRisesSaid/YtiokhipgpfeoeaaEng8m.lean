/- An evaluator of the code of the model, and lemmas of its proof of soundness: what it tells of a call, the call does; no condition but those that each lemma names. -/
import Derived.Test.YtiokhipgpfeoeaaEng8b
set_option linter.all false
set_option linter.deprecated false
set_option autoImplicit false
namespace Go.Eng
open Go Go.RowKit

theorem ancOf_bit (mk : Nat → Nat) (es : List Edge) (k : Nat) : Nat.testBit (ancOf mk es) k = true ↔ ∃ e ∈ es, bindsE e = true ∧ (Nat.testBit (mk e.on) k = true ∨ e.on = k) := by
  induction es with
  | nil => simp [ancOf]
  | cons e es ih =>
    have h : ancOf mk (e :: es) = bif2 (bindsE e) (Nat.lor (Nat.lor (mk e.on) (Nat.shiftLeft 1 e.on)) (ancOf mk es)) (ancOf mk es) := rfl
    rw [h, bif2_eq]
    by_cases hb : bindsE e = true
    · rw [if_pos hb]
      show Nat.testBit ((mk e.on ||| 1 <<< e.on) ||| ancOf mk es) k = true ↔ _
      rw [Nat.testBit_or, Nat.testBit_or, Bool.or_eq_true, Bool.or_eq_true, ih, Nat.one_shiftLeft, Nat.testBit_two_pow]
      simp [hb]
    · rw [if_neg hb, ih]
      simp [hb]

theorem masks_keep (l : List Oper) : ∀ (j : Nat) (mk : Nat → Nat) (k : Nat), k < j → masks l j mk k = mk k := by
  induction l with
  | nil => intro j mk k _; rfl
  | cons o l ih =>
    intro j mk k hk
    show masks l (j + 1) (upd mk j (ancOf mk o.after.toList)) k = mk k
    rw [ih _ _ _ (by omega), upd_eq, if_neg (by omega)]
theorem masks_at (l : List Oper) : ∀ (j : Nat) (mk : Nat → Nat) (_ : edgesOk l j = true) (i : Nat) (o : Oper), l[i]? = some o → masks l j mk (j + i) = ancOf (masks l j mk) o.after.toList := by
  induction l with
  | nil => intro j mk _ i o h; simp at h
  | cons p l ih =>
    intro j mk he i o h
    have he : (p.after.toList.all (fun e => !bindsE e || Nat.blt e.on j) && edgesOk l (j + 1)) = true := he
    obtain ⟨h1, h2⟩ := Bool.and_eq_true_iff.1 he
    have hm : masks (p :: l) j mk = masks l (j + 1) (upd mk j (ancOf mk p.after.toList)) := rfl
    rw [hm]
    cases i with
    | zero =>
      simp only [List.getElem?_cons_zero, Option.some.injEq] at h
      subst h
      have e0 : masks l (j + 1) (upd mk j (ancOf mk p.after.toList)) (j + 0) = ancOf mk p.after.toList := by
        rw [masks_keep _ _ _ _ (by omega), upd_eq, if_pos (Nat.add_zero j)]
      rw [e0]
      -- the masks that it asks are those of the end
      have : ∀ es : List Edge, (∀ e ∈ es, bindsE e = true → e.on < j) → ancOf mk es = ancOf (masks l (j + 1) (upd mk j (ancOf mk p.after.toList))) es := by
        intro es
        induction es with
        | nil => intro _; rfl
        | cons e es ihe =>
          intro hes
          show bif2 (bindsE e) (Nat.lor (Nat.lor (mk e.on) (Nat.shiftLeft 1 e.on)) (ancOf mk es)) (ancOf mk es) =
            bif2 (bindsE e) (Nat.lor (Nat.lor (masks l (j + 1) (upd mk j (ancOf mk p.after.toList)) e.on) (Nat.shiftLeft 1 e.on)) (ancOf (masks l (j + 1) (upd mk j (ancOf mk p.after.toList))) es)) (ancOf (masks l (j + 1) (upd mk j (ancOf mk p.after.toList))) es)
          rw [← ihe (fun e he => hes e (by simp [he])), bif2_eq, bif2_eq]
          split
          · rename_i hb
            have hlt := hes e (by simp) hb
            rw [masks_keep _ _ _ _ (by omega), upd_eq, if_neg (by omega)]
          · rfl
      refine this _ fun e he hb => ?_
      have := List.all_eq_true.1 h1 e he
      rw [hb] at this
      have : Nat.blt e.on j = true := by simpa [-Nat.blt_eq] using this
      exact Nat.le_of_ble_eq_true this
    | succ i =>
      have := ih (j + 1) (upd mk j (ancOf mk p.after.toList)) h2 i o (by simpa using h)
      rwa [show j + 1 + i = j + (i + 1) by omega] at this

structure MaskOk (all : List Oper) (mk : Nat → Nat) : Prop where
  lt : ∀ j k, Nat.testBit (mk j) k = true → k < j
  edge : ∀ j o, all[j]? = some o → ∀ e ∈ o.after, Region.binds .any e = true → Nat.testBit (mk j) e.on = true
  trans : ∀ j k i, Nat.testBit (mk j) k = true → Nat.testBit (mk k) i = true → Nat.testBit (mk j) i = true
  via : ∀ j o, all[j]? = some o → ∀ k, Nat.testBit (mk j) k = true → ∃ e ∈ o.after, Region.binds .any e = true ∧ (Nat.testBit (mk e.on) k = true ∨ e.on = k)
theorem edgesOk_lt {l : List Oper} : ∀ {j : Nat} (_ : edgesOk l j = true) {i : Nat} {o : Oper} (_ : l[i]? = some o) {e : Edge} (_ : e ∈ o.after.toList) (_ : bindsE e = true), e.on < j + i := by
  induction l with
  | nil => intro j _ i o h; simp at h
  | cons p l ih =>
    intro j he i o h e hm hb
    have he : (p.after.toList.all (fun e => !bindsE e || Nat.blt e.on j) && edgesOk l (j + 1)) = true := he
    obtain ⟨h1, h2⟩ := Bool.and_eq_true_iff.1 he
    cases i with
    | zero =>
      simp only [List.getElem?_cons_zero, Option.some.injEq] at h
      subst h
      have := List.all_eq_true.1 h1 e hm
      rw [hb] at this
      have : Nat.blt e.on j = true := by simpa [-Nat.blt_eq] using this
      have := Nat.le_of_ble_eq_true this
      omega
    | succ i =>
      have := ih h2 (i := i) (by simpa using h) hm hb
      omega
theorem masks_over (l : List Oper) : ∀ (j : Nat) (mk : Nat → Nat) (k : Nat), j + l.length ≤ k → masks l j mk k = mk k := by
  induction l with
  | nil => intro j mk k _; rfl
  | cons o l ih =>
    intro j mk k hk
    show masks l (j + 1) (upd mk j (ancOf mk o.after.toList)) k = mk k
    simp only [List.length_cons] at hk
    rw [ih _ _ _ (by omega), upd_eq, if_neg (by omega)]
theorem maskOk {all : List Oper} (h : edgesOk all 0 = true) : MaskOk all (masks all 0 fun _ => 0) := by
  have hat : ∀ j o, all[j]? = some o → masks all 0 (fun _ => 0) j = ancOf (masks all 0 fun _ => 0) o.after.toList := fun j o ho => by
    have := masks_at all 0 (fun _ => 0) h j o ho
    rwa [Nat.zero_add] at this
  have hover : ∀ j, all[j]? = none → masks all 0 (fun _ => 0) j = 0 := fun j hj => masks_over all 0 _ j (by simpa using hj)
  generalize hm : masks all 0 (fun _ => 0) = mk at hat hover
  have hvia : ∀ j o, all[j]? = some o → ∀ k, Nat.testBit (mk j) k = true ↔ ∃ e ∈ o.after.toList, bindsE e = true ∧ (Nat.testBit (mk e.on) k = true ∨ e.on = k) := fun j o ho k => by
    rw [hat j o ho, ancOf_bit]
  have hlt : ∀ j k, Nat.testBit (mk j) k = true → k < j := by
    intro j
    induction j using Nat.strongRecOn with
    | _ j ih =>
      intro k hk
      cases ho : all[j]? with
      | none => rw [hover j ho] at hk; simp at hk
      | some o =>
        obtain ⟨e, he, hb, hh⟩ := (hvia j o ho k).1 hk
        have hlt := edgesOk_lt h ho he hb
        rw [Nat.zero_add] at hlt
        rcases hh with hh | rfl
        · have := ih e.on hlt k hh; omega
        · exact hlt
  refine ⟨hlt, fun j o ho e he hb => (hvia j o ho e.on).2 ⟨e, by simpa using he, hb, .inr rfl⟩, fun j => ?_, fun j o ho k hk => ?_⟩
  · induction j using Nat.strongRecOn with
    | _ j ih =>
      intro k i hk hi
      cases ho : all[j]? with
      | none => rw [hover j ho] at hk; simp at hk
      | some o =>
        obtain ⟨e, he, hb, hh⟩ := (hvia j o ho k).1 hk
        have hlt := edgesOk_lt h ho he hb
        rw [Nat.zero_add] at hlt
        refine (hvia j o ho i).2 ⟨e, he, hb, .inl ?_⟩
        rcases hh with hh | rfl
        · exact ih e.on hlt k i hh hi
        · exact hi
  · obtain ⟨e, he, hb, hh⟩ := (hvia j o ho k).1 hk
    exact ⟨e, by simpa using he, hb, hh⟩

theorem dstsOk_ne {l : List Oper} (h : dstsOk l = true) : ∀ (i j : Nat) (o p : Oper) (d : Tmp), l[i]? = some o → l[j]? = some p → o.dst = some d → p.dst = some d → i = j := by
  induction l with
  | nil => intro i j o p d h; simp at h
  | cons q l ih =>
    have h' : ((match q.dst with | some d => l.all (fun p => !(p.dst == some d)) | none => true) && dstsOk l) = true := h
    obtain ⟨h1, h2⟩ := Bool.and_eq_true_iff.1 h'
    have key : ∀ (j : Nat) (p : Oper) (d : Tmp), l[j]? = some p → q.dst = some d → p.dst = some d → False := by
      intro j p d hj hq hp
      rw [hq] at h1
      have := List.all_eq_true.1 h1 p (List.mem_of_getElem? hj)
      rw [hp] at this; simp at this
    intro i j o p d hi hj ho hp
    cases i with
    | zero =>
      simp only [List.getElem?_cons_zero, Option.some.injEq] at hi
      subst hi
      cases j with
      | zero => rfl
      | succ j => exact (key j p d (by simpa using hj) ho hp).elim
    | succ i =>
      cases j with
      | zero =>
        simp only [List.getElem?_cons_zero, Option.some.injEq] at hj
        subst hj
        exact (key i o d (by simpa using hi) hp ho).elim
      | succ j => rw [ih h2 i j o p d (by simpa using hi) (by simpa using hj) ho hp]

/-- A slot, as it is told. -/
theorem stA_spec {R : DR} {st0 : Tmps} {anc : Nat} (l : List Oper) : ∀ (k t : Nat), (∃ i o, l[i]? = some o ∧ o.dst = some t ∧ stA R st0 anc l k t = if Nat.testBit anc (k + i) = true then (R (k + i)).1 else .top) ∨ ((∀ (i : Nat) (o : Oper), l[i]? = some o → o.dst ≠ some t) ∧ stA R st0 anc l k t = st0 t) := by
  induction l with
  | nil => intro k t; exact .inr ⟨by simp, rfl⟩
  | cons o l ih =>
    intro k t
    have h : stA R st0 anc (o :: l) k = putA o.dst (stA R st0 anc l (k + 1)) (bif2 (Nat.testBit anc k) (R k).1 .top) := rfl
    rw [h]
    by_cases hd : o.dst = some t
    · refine .inl ⟨0, o, rfl, hd, ?_⟩
      rw [putA_eq, hd, Nat.add_zero, bif2_eq]
      simp
    · have e : putA o.dst (stA R st0 anc l (k + 1)) (bif2 (Nat.testBit anc k) (R k).1 .top) t = stA R st0 anc l (k + 1) t := by
        rw [putA_eq]
        cases hh : o.dst with
        | none => rfl
        | some d => simp only; rw [if_neg (by intro e; subst e; exact hd hh)]
      rw [e]
      rcases ih (k + 1) t with ⟨i, p, hp, hpd, hv⟩ | ⟨hno, hv⟩
      · refine .inl ⟨i + 1, p, by simpa using hp, hpd, ?_⟩
        rw [hv, show k + 1 + i = k + (i + 1) by omega]
      · refine .inr ⟨fun i p hp => ?_, hv⟩
        cases i with
        | zero => simp only [List.getElem?_cons_zero, Option.some.injEq] at hp; subst hp; exact hd
        | succ i => exact hno i p (by simpa using hp)
end Go.Eng
