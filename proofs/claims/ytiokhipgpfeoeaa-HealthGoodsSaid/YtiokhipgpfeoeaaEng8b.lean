/- An evaluator of the code of the model, and lemmas of its proof of soundness: what it tells of a call, the call does; no condition but those that each lemma names. -/
import Derived.Test.YtiokhipgpfeoeaaEng8
import Derived.Orders
set_option linter.all false
set_option linter.deprecated false
set_option autoImplicit false
namespace Go.Eng
open Go Go.RowKit

theorem T.nopan_ok {α : Type} {x : T α} {Q : α → Prop} {Qp : AV → Mem → Prop} (h : (T.nopan x).holds Q Qp) : x.holds Q (fun _ _ => False) := by
  induction x with
  | ret a => exact h
  | br b t e iht ihe => exact ⟨fun hb => iht (h.1 hb), fun hb => ihe (h.2 hb)⟩
  | pan x M => exact h.elim
  | ck b t ih => exact ⟨h.1, ih h.2⟩
  | fail => exact h.elim
theorem T.leaf {α : Type} {x : T α} {Q : α → Prop} (h : x.holds Q (fun _ _ => False)) : ∃ a, Q a ∧ x.holds (· = a) (fun _ _ => False) := by
  induction x with
  | ret a => exact ⟨a, h, rfl⟩
  | br b t e iht ihe =>
    cases hb : b with
    | true => obtain ⟨a, h1, h2⟩ := iht (h.1 hb); exact ⟨a, h1, by subst hb; exact And.intro (fun _ => h2) (fun x => nomatch x)⟩
    | false => obtain ⟨a, h1, h2⟩ := ihe (h.2 hb); exact ⟨a, h1, by subst hb; exact And.intro (fun x => nomatch x) (fun _ => h2)⟩
  | pan x M => exact h.elim
  | ck b t ih => obtain ⟨a, h1, h2⟩ := ih h.2; exact ⟨a, h1, h.1, h2⟩
  | fail => exact h.elim

theorem T.leaf_eq {α : Type} {x : T α} {a b : α} (h : x.holds (· = a) (fun _ _ => False)) (h' : x.holds (· = b) (fun _ _ => False)) : a = b := by
  induction x with
  | ret c => exact (show c = a from h).symm.trans h'
  | br c t e iht ihe =>
    cases c with
    | true => exact iht (h.1 rfl) (h'.1 rfl)
    | false => exact ihe (h.2 rfl) (h'.2 rfl)
  | pan x M => exact h'.elim
  | ck c t ih => exact ih h.2 h'.2
  | fail => exact h.elim
section
variable {P : Program} {tt : TT} {callF : FuncId → List AV → Mem → T (AV × Mem)}

theorem yD_cases {x : AV} {f : Bool → T (AV × Mem)} {none : T (AV × Mem)} {Q : AV × Mem → Prop} {Qp : AV → Mem → Prop} (h : (yD x f none).holds Q Qp) :
    (∃ b, x = .b b ∧ (f b).holds Q Qp) ∨ ((∀ b, x ≠ .b b) ∧ x ≠ .top ∧ (∀ b, x ≠ .v (.bool b)) ∧ none.holds Q Qp) := by
  cases x with
  | b b => exact .inl ⟨b, rfl, h⟩
  | top => exact h.elim
  | v y =>
    obtain ⟨h1, h2⟩ := brn_ok (show (T.br (isBoolV y) .fail none).holds Q Qp from h)
    exact .inr ⟨by simp, by simp, (fun b e => by cases e; cases h1), h2⟩
  | _ => exact .inr ⟨by simp, by simp, by simp, h⟩

/-- An operation of a region that draws: it's carried out, or skipped. -/
theorem drawOp_ok {all : List Oper} {A : Mem} {st : Tmps} {o : Oper} {Q : AV × Mem → Prop} {Qp : AV → Mem → Prop} (h : (drawOp P tt callF all A st o).holds Q Qp) :
    (o.guard = none ∧ (evOp ⟨P, tt, callF, A, st⟩ o.op).holds Q (fun _ _ => False)) ∨
    ∃ j want p d, o.guard = some (j, want) ∧ all[j]? = some p ∧ p.dst = some d ∧
      ((∃ b, st d = .b b ∧ (b = want → (evOp ⟨P, tt, callF, A, st⟩ o.op).holds Q (fun _ _ => False)) ∧ (b ≠ want → Q (.v undef, A))) ∨
       ((∀ b, st d ≠ .b b) ∧ st d ≠ .top ∧ (∀ b, st d ≠ .v (.bool b)) ∧ Q (.v undef, A))) := by
  have h : (@Option.rec (Nat × Bool) (fun _ => T (AV × Mem)) (T.nopan (evOp ⟨P, tt, callF, A, st⟩ o.op)) (fun g =>
    onO (nth? all g.1) fun p => onO p.dst fun d => yD (st d) (fun b => .br (b == g.2) (T.nopan (evOp ⟨P, tt, callF, A, st⟩ o.op)) (.ret (.v undef, A))) (.ret (.v undef, A))) o.guard).holds Q Qp := h
  cases hg : o.guard with
  | none => rw [hg] at h; exact .inl ⟨rfl, T.nopan_ok h⟩
  | some g =>
    rw [hg] at h
    obtain ⟨j, want⟩ := g
    obtain ⟨p, hp, h⟩ := onO_ok (show (onO (nth? all j) fun p => onO p.dst fun d => yD (st d) (fun b => .br (b == want) (T.nopan (evOp ⟨P, tt, callF, A, st⟩ o.op)) (.ret (.v undef, A))) (.ret (.v undef, A))).holds Q Qp from h)
    obtain ⟨d, hd, h⟩ := onO_ok h
    rw [nth?_eq] at hp
    refine .inr ⟨j, want, p, d, rfl, hp, hd, ?_⟩
    rcases yD_cases h with ⟨b, hb, h1, h2⟩ | h
    · refine .inl ⟨b, hb, fun e => T.nopan_ok (h1 (by simpa using e)), fun e => h2 (by simpa using e)⟩
    · exact .inr h
theorem drawOp_nopan {all : List Oper} {A : Mem} {st : Tmps} {o : Oper} {Q : AV × Mem → Prop} {Qp : AV → Mem → Prop} (h : (drawOp P tt callF all A st o).holds Q Qp) : (drawOp P tt callF all A st o).holds Q (fun _ _ => False) := by
  have np : ∀ {x : T (AV × Mem)} {Q : AV × Mem → Prop} {Qp : AV → Mem → Prop}, (T.nopan x).holds Q Qp → (T.nopan x).holds Q (fun _ _ => False) := by
    intro x
    induction x with
    | ret a => exact fun h => h
    | br b t e iht ihe => exact fun h => ⟨fun hb => iht (h.1 hb), fun hb => ihe (h.2 hb)⟩
    | pan x M => exact fun h => h
    | ck b t ih => exact fun h => ⟨h.1, ih h.2⟩
    | fail => exact fun h => h
  unfold drawOp at h ⊢
  cases hg : o.guard with
  | none => rw [hg] at h; exact np h
  | some g =>
    rw [hg] at h
    simp only at h ⊢
    cases hp : nth? all g.1 with
    | none => rw [hp] at h; exact h.elim
    | some p =>
      rw [hp] at h
      have h : (onO p.dst fun d => yD (st d) (fun b => .br (b == g.2) (T.nopan (evOp ⟨P, tt, callF, A, st⟩ o.op)) (.ret (.v undef, A))) (.ret (.v undef, A))).holds Q Qp := h
      show (onO p.dst fun d => yD (st d) (fun b => .br (b == g.2) (T.nopan (evOp ⟨P, tt, callF, A, st⟩ o.op)) (.ret (.v undef, A))) (.ret (.v undef, A))).holds Q _
      cases hd : p.dst with
      | none => rw [hd] at h; exact h.elim
      | some d =>
        rw [hd] at h
        have h : (yD (st d) (fun b => .br (b == g.2) (T.nopan (evOp ⟨P, tt, callF, A, st⟩ o.op)) (.ret (.v undef, A))) (.ret (.v undef, A))).holds Q Qp := h
        show (yD (st d) (fun b => .br (b == g.2) (T.nopan (evOp ⟨P, tt, callF, A, st⟩ o.op)) (.ret (.v undef, A))) (.ret (.v undef, A))).holds Q _
        cases hs : st d with
        | b b => rw [hs] at h; exact ⟨fun e => np (h.1 e), fun e => h.2 e⟩
        | v y => rw [hs] at h; obtain ⟨h1, h2⟩ := brn_ok h; exact (show (isBoolV y = true → _) ∧ (isBoolV y = false → _) from ⟨(fun e => by rw [h1] at e; cases e), fun _ => h2⟩)
        | top => rw [hs] at h; exact h.elim
        | _ => rw [hs] at h; exact h

theorem memA_congr {M0 : Mem} {big : Nat} {R R' : DR} {anc j : Nat} (h : ∀ k, Nat.testBit anc k = true → R k = R' k) : memA M0 big R anc j = memA M0 big R' anc j := by
  unfold memA
  congr 1
  funext id
  rw [bif2_eq, bif2_eq, bif2_eq, bif2_eq]
  split
  · rfl
  · split
    · rename_i hb; rw [h _ hb]
    · rfl
theorem stA_congr {R R' : DR} {st0 : Tmps} {anc : Nat} (h : ∀ k, Nat.testBit anc k = true → R k = R' k) (l : List Oper) : ∀ k, stA R st0 anc l k = stA R' st0 anc l k := by
  induction l with
  | nil => intro k; rfl
  | cons o l ih =>
    intro k
    show putA o.dst (stA R st0 anc l (k + 1)) (bif2 (Nat.testBit anc k) (R k).1 .top) = putA o.dst (stA R' st0 anc l (k + 1)) (bif2 (Nat.testBit anc k) (R' k).1 .top)
    rw [ih, bif2_eq, bif2_eq]
    split
    · rename_i hb; rw [h _ hb]
    · rfl

theorem drawGo_ok {all : List Oper} {mk : Nat → Nat} {M0 : Mem} {st0 : Tmps} {big : Nat} (hmk : ∀ j k, Nat.testBit (mk j) k = true → k < j) (l : List Oper) : ∀ {j : Nat} {R : DR} {Q : DR → Prop} {Qp : AV → Mem → Prop}
    (_ : (drawGo P tt callF all mk M0 st0 big l j R).holds Q Qp), ∃ R', Q R' ∧ (∀ k, k < j → R' k = R k) ∧
      ∀ i o, l[i]? = some o → (drawOp P tt callF all (memA M0 big R' (mk (j + i)) (j + i)) (stA R' st0 (mk (j + i)) all 0) o).holds (· = R' (j + i)) (fun _ _ => False) ∧ (R' (j + i)).2.next ≤ M0.next + (j + i + 1) * big := by
  induction l with
  | nil => intro j R Q Qp h; exact ⟨R, h, fun _ _ => rfl, by simp⟩
  | cons o l ih =>
    intro j R Q Qp h
    have h : ((drawOp P tt callF all (memA M0 big R (mk j) j) (stA R st0 (mk j) all 0) o).bind fun x =>
      .ck (Nat.ble x.2.next (M0.next + (j + 1) * big)) (drawGo P tt callF all mk M0 st0 big l (j + 1) (upd R j x))).holds Q Qp := h
    rw [T.holds_bind] at h
    obtain ⟨x, hx, hh⟩ := T.leaf (drawOp_nopan h)
    have hx' : (T.ck (Nat.ble x.2.next (M0.next + (j + 1) * big)) (drawGo P tt callF all mk M0 st0 big l (j + 1) (upd R j x))).holds Q Qp := by
      have hx2 : (drawOp P tt callF all (memA M0 big R (mk j) j) (stA R st0 (mk j) all 0) o).holds (fun x => (T.ck (Nat.ble x.2.next (M0.next + (j + 1) * big)) (drawGo P tt callF all mk M0 st0 big l (j + 1) (upd R j x))).holds Q Qp) Qp := h
      exact hx
    obtain ⟨hn, hrest⟩ := ck_ok hx'
    obtain ⟨R', hq, hR, hall⟩ := ih hrest
    have hRj : R' j = x := by rw [hR j (by omega), upd_eq, if_pos rfl]
    have hRlt : ∀ k, k < j → R' k = R k := fun k hk => by rw [hR k (by omega), upd_eq, if_neg (by omega)]
    refine ⟨R', hq, hRlt, fun i p hp => ?_⟩
    cases i with
    | zero =>
      simp only [List.getElem?_cons_zero, Option.some.injEq] at hp
      subst hp
      simp only [Nat.add_zero]
      have e1 : memA M0 big R' (mk j) j = memA M0 big R (mk j) j := memA_congr fun k hk => hRlt k (hmk j k hk)
      have e2 : stA R' st0 (mk j) all 0 = stA R st0 (mk j) all 0 := stA_congr (fun k hk => hRlt k (hmk j k hk)) all 0
      rw [e1, e2, hRj]
      exact ⟨hh, Nat.le_of_ble_eq_true hn⟩
    | succ i =>
      have := hall i p (by simpa using hp)
      rwa [show j + 1 + i = j + (i + 1) by omega] at this
end
end Go.Eng
