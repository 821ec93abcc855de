/- An evaluator of the code of the model, and lemmas of its proof of soundness: what it tells of a call, the call does; no condition but those that each lemma names. -/
import Derived.Test.YtiokhipgpfeoeaaEng8
import Derived.Orders
set_option linter.all false
set_option linter.deprecated false
set_option autoImplicit false
namespace Go.Eng
open Go Go.RowKit

theorem T.nopan_ok {α : Type} {x : T α} {Q : α → Prop} {Qp : AV → Mem → Prop} (h : (T.nopan x).holds Q Qp) : x.holds Q (fun _ _ => False) := by
  induction x with
  | ret a => exact h
  | br b t e iht ihe => exact ⟨fun hb => iht (h.1 hb), fun hb => ihe (h.2 hb)⟩
  | pan x M => exact h.elim
  | ck b t ih => exact ⟨h.1, ih h.2⟩
  | fail => exact h.elim
theorem T.leaf {α : Type} {x : T α} {Q : α → Prop} (h : x.holds Q (fun _ _ => False)) : ∃ a, Q a ∧ x.holds (· = a) (fun _ _ => False) := by
  induction x with
  | ret a => exact ⟨a, h, rfl⟩
  | br b t e iht ihe =>
    cases hb : b with
    | true => obtain ⟨a, h1, h2⟩ := iht (h.1 hb); exact ⟨a, h1, by subst hb; exact And.intro (fun _ => h2) (fun x => nomatch x)⟩
    | false => obtain ⟨a, h1, h2⟩ := ihe (h.2 hb); exact ⟨a, h1, by subst hb; exact And.intro (fun x => nomatch x) (fun _ => h2)⟩
  | pan x M => exact h.elim
  | ck b t ih => obtain ⟨a, h1, h2⟩ := ih h.2; exact ⟨a, h1, h.1, h2⟩
  | fail => exact h.elim

theorem T.leaf_eq {α : Type} {x : T α} {a b : α} (h : x.holds (· = a) (fun _ _ => False)) (h' : x.holds (· = b) (fun _ _ => False)) : a = b := by
  induction x with
  | ret c => exact (show c = a from h).symm.trans h'
  | br c t e iht ihe =>
    cases c with
    | true => exact iht (h.1 rfl) (h'.1 rfl)
    | false => exact ihe (h.2 rfl) (h'.2 rfl)
  | pan x M => exact h'.elim
  | ck c t ih => exact ih h.2 h'.2
  | fail => exact h.elim
section
variable {P : Program} {tt : TT} {callF : FuncId → List AV → Mem → T (AV × Mem)}

theorem yD_cases {x : AV} {f : Bool → T (AV × Mem)} {none : T (AV × Mem)} {Q : AV × Mem → Prop} {Qp : AV → Mem → Prop} (h : (yD x f none).holds Q Qp) :
    (∃ b, x = .b b ∧ (f b).holds Q Qp) ∨ ((∀ b, x ≠ .b b) ∧ x ≠ .top ∧ (∀ b, x ≠ .v (.bool b)) ∧ none.holds Q Qp) := by
  cases x with
  | b b => exact .inl ⟨b, rfl, h⟩
  | top => exact h.elim
  | v y =>
    obtain ⟨h1, h2⟩ := brn_ok (show (T.br (isBoolV y) .fail none).holds Q Qp from h)
    exact .inr ⟨by simp, by simp, (fun b e => by cases e; cases h1), h2⟩
  | _ => exact .inr ⟨by simp, by simp, by simp, h⟩

/-- An operation of a region that draws: it's carried out, or skipped. -/
theorem drawOp_ok {all : List Oper} {A : Mem} {st : Tmps} {o : Oper} {Q : AV × Mem → Prop} {Qp : AV → Mem → Prop} (h : (drawOp P tt callF all A st o).holds Q Qp) :
    (o.guard = none ∧ (evOp ⟨P, tt, callF, A, st⟩ o.op).holds Q (fun _ _ => False)) ∨
    ∃ j want p d, o.guard = some (j, want) ∧ all[j]? = some p ∧ p.dst = some d ∧
      ((∃ b, st d = .b b ∧ (b = want → (evOp ⟨P, tt, callF, A, st⟩ o.op).holds Q (fun _ _ => False)) ∧ (b ≠ want → Q (.v undef, A))) ∨
       ((∀ b, st d ≠ .b b) ∧ st d ≠ .top ∧ (∀ b, st d ≠ .v (.bool b)) ∧ Q (.v undef, A))) := by
  have h : (@Option.rec (Nat × Bool) (fun _ => T (AV × Mem)) (T.nopan (evOp ⟨P, tt, callF, A, st⟩ o.op)) (fun g =>
    onO (nth? all g.1) fun p => onO p.dst fun d => yD (st d) (fun b => .br (b == g.2) (T.nopan (evOp ⟨P, tt, callF, A, st⟩ o.op)) (.ret (.v undef, A))) (.ret (.v undef, A))) o.guard).holds Q Qp := h
  cases hg : o.guard with
  | none => rw [hg] at h; exact .inl ⟨rfl, T.nopan_ok h⟩
  | some g =>
    rw [hg] at h
    obtain ⟨j, want⟩ := g
    obtain ⟨p, hp, h⟩ := onO_ok (show (onO (nth? all j) fun p => onO p.dst fun d => yD (st d) (fun b => .br (b == want) (T.nopan (evOp ⟨P, tt, callF, A, st⟩ o.op)) (.ret (.v undef, A))) (.ret (.v undef, A))).holds Q Qp from h)
    obtain ⟨d, hd, h⟩ := onO_ok h
    rw [nth?_eq] at hp
    refine .inr ⟨j, want, p, d, rfl, hp, hd, ?_⟩
    rcases yD_cases h with ⟨b, hb, h1, h2⟩ | h
    · refine .inl ⟨b, hb, fun e => T.nopan_ok (h1 (by simpa using e)), fun e => h2 (by simpa using e)⟩
    · exact .inr h
theorem drawOp_nopan {all : List Oper} {A : Mem} {st : Tmps} {o : Oper} {Q : AV × Mem → Prop} {Qp : AV → Mem → Prop} (h : (drawOp P tt callF all A st o).holds Q Qp) : (drawOp P tt callF all A st o).holds Q (fun _ _ => False) := by
  have np : ∀ {x : T (AV × Mem)} {Q : AV × Mem → Prop} {Qp : AV → Mem → Prop}, (T.nopan x).holds Q Qp → (T.nopan x).holds Q (fun _ _ => False) := by
    intro x
    induction x with
    | ret a => exact fun h => h
    | br b t e iht ihe => exact fun h => ⟨fun hb => iht (h.1 hb), fun hb => ihe (h.2 hb)⟩
    | pan x M => exact fun h => h
    | ck b t ih => exact fun h => ⟨h.1, ih h.2⟩
    | fail => exact fun h => h
  unfold drawOp at h ⊢
  cases hg : o.guard with
  | none => rw [hg] at h; exact np h
  | some g =>
    rw [hg] at h
    simp only at h ⊢
    cases hp : nth? all g.1 with
    | none => rw [hp] at h; exact h.elim
    | some p =>
      rw [hp] at h
      have h : (onO p.dst fun d => yD (st d) (fun b => .br (b == g.2) (T.nopan (evOp ⟨P, tt, callF, A, st⟩ o.op)) (.ret (.v undef, A))) (.ret (.v undef, A))).holds Q Qp := h
      show (onO p.dst fun d => yD (st d) (fun b => .br (b == g.2) (T.nopan (evOp ⟨P, tt, callF, A, st⟩ o.op)) (.ret (.v undef, A))) (.ret (.v undef, A))).holds Q _
      cases hd : p.dst with
      | none => rw [hd] at h; exact h.elim
      | some d =>
        rw [hd] at h
        have h : (yD (st d) (fun b => .br (b == g.2) (T.nopan (evOp ⟨P, tt, callF, A, st⟩ o.op)) (.ret (.v undef, A))) (.ret (.v undef, A))).holds Q Qp := h
        show (yD (st d) (fun b => .br (b == g.2) (T.nopan (evOp ⟨P, tt, callF, A, st⟩ o.op)) (.ret (.v undef, A))) (.ret (.v undef, A))).holds Q _
        cases hs : st d with
        | b b => rw [hs] at h; exact ⟨fun e => np (h.1 e), fun e => h.2 e⟩
        | v y => rw [hs] at h; obtain ⟨h1, h2⟩ := brn_ok h; exact (show (isBoolV y = true → _) ∧ (isBoolV y = false → _) from ⟨(fun e => by rw [h1] at e; cases e), fun _ => h2⟩)
        | top => rw [hs] at h; exact h.elim
        | _ => rw [hs] at h; exact h

theorem memA_congr {M0 : Mem} {big : Nat} {R R' : DR} {anc j : Nat} (h : ∀ k, Nat.testBit anc k = true → R k = R' k) : memA M0 big R anc j = memA M0 big R' anc j := by
  unfold memA
  congr 1
  funext id
  rw [bif2_eq, bif2_eq, bif2_eq, bif2_eq]
  split
  · rfl
  · split
    · rename_i hb; rw [h _ hb]
    · rfl
theorem stA_congr {R R' : DR} {st0 : Tmps} {anc : Nat} (h : ∀ k, Nat.testBit anc k = true → R k = R' k) (l : List Oper) : ∀ k, stA R st0 anc l k = stA R' st0 anc l k := by
  induction l with
  | nil => intro k; rfl
  | cons o l ih =>
    intro k
    show putA o.dst (stA R st0 anc l (k + 1)) (bif2 (Nat.testBit anc k) (R k).1 .top) = putA o.dst (stA R' st0 anc l (k + 1)) (bif2 (Nat.testBit anc k) (R' k).1 .top)
    rw [ih, bif2_eq, bif2_eq]
    split
    · rename_i hb; rw [h _ hb]
    · rfl

/-- What is told by slots alone, where it is carried out at all. -/
def PW (all : List Oper) (st : Tmps) (o : Oper) : Prop := (o.guard = none → pureV st o.op = true) ∧ ∀ g, o.guard = some g → ∀ p d, all[g.1]? = some p → p.dst = some d → st d = .b g.2 → pureV st o.op = true
theorem drawOpF_ok {all : List Oper} {A : Mem} {st : Tmps} {o : Oper} {Q : (AV × Mem) × Bool → Prop} {Qp : AV → Mem → Prop} (h : (drawOpF P tt callF all A st o).holds Q Qp) :
    (drawOp P tt callF all A st o).holds (fun x => ∃ fl, Q (x, fl) ∧ (fl = true → PW all st o)) Qp := by
  unfold drawOpF at h
  unfold drawOp
  cases hg : o.guard with
  | none =>
    rw [hg] at h
    have h : ((T.nopan (evOp ⟨P, tt, callF, A, st⟩ o.op)).bind fun x => .ret (x, pureV st o.op)).holds Q Qp := h
    rw [T.holds_bind] at h
    refine T.holds_mono h (fun x hx => ⟨_, hx, fun e => ⟨fun _ => e, fun g e' => ?_⟩⟩) fun _ _ h => h
    rw [hg] at e'; cases e'
  | some g =>
    rw [hg] at h
    have h : (onO (nth? all g.1) fun p => onO p.dst fun d => yE (st d) (fun b => .br (b == g.2) ((T.nopan (evOp ⟨P, tt, callF, A, st⟩ o.op)).bind fun x => .ret (x, pureV st o.op)) (.ret ((.v undef, A), true))) (.ret ((.v undef, A), true))).holds Q Qp := h
    show (onO (nth? all g.1) fun p => onO p.dst fun d => yD (st d) (fun b => .br (b == g.2) (T.nopan (evOp ⟨P, tt, callF, A, st⟩ o.op)) (.ret (.v undef, A))) (.ret (.v undef, A))).holds _ Qp
    cases hp : nth? all g.1 with
    | none => rw [hp] at h; exact h.elim
    | some p =>
      rw [hp] at h
      have h : (onO p.dst fun d => yE (st d) (fun b => .br (b == g.2) ((T.nopan (evOp ⟨P, tt, callF, A, st⟩ o.op)).bind fun x => .ret (x, pureV st o.op)) (.ret ((.v undef, A), true))) (.ret ((.v undef, A), true))).holds Q Qp := h
      show (onO p.dst fun d => yD (st d) (fun b => .br (b == g.2) (T.nopan (evOp ⟨P, tt, callF, A, st⟩ o.op)) (.ret (.v undef, A))) (.ret (.v undef, A))).holds _ Qp
      cases hd : p.dst with
      | none => rw [hd] at h; exact h.elim
      | some d =>
        rw [hd] at h
        have h : (yE (st d) (fun b => .br (b == g.2) ((T.nopan (evOp ⟨P, tt, callF, A, st⟩ o.op)).bind fun x => .ret (x, pureV st o.op)) (.ret ((.v undef, A), true))) (.ret ((.v undef, A), true))).holds Q Qp := h
        show (yD (st d) (fun b => .br (b == g.2) (T.nopan (evOp ⟨P, tt, callF, A, st⟩ o.op)) (.ret (.v undef, A))) (.ret (.v undef, A))).holds _ Qp
        rw [nth?_eq] at hp
        have no : (∀ b, st d ≠ .b b) → PW all st o := fun hb => ⟨fun e => by rw [hg] at e; (cases e), fun g' e p' d' h1 h2 h3 => by
          rw [hg] at e; cases e; rw [hp] at h1; cases h1; rw [hd] at h2; cases h2; exact absurd h3 (hb _)⟩
        cases hs : st d with
        | b b =>
          rw [hs] at h
          have h : (T.br (b == g.2) ((T.nopan (evOp ⟨P, tt, callF, A, st⟩ o.op)).bind fun x => .ret (x, pureV st o.op)) (.ret ((.v undef, A), true))).holds Q Qp := h
          refine (show (T.br (b == g.2) (T.nopan (evOp ⟨P, tt, callF, A, st⟩ o.op)) (.ret (.v undef, A))).holds _ Qp from ⟨fun e => ?_, fun e => ?_⟩)
          · have h1 := h.1 e
            have h1 : ((T.nopan (evOp ⟨P, tt, callF, A, st⟩ o.op)).bind fun x => .ret (x, pureV st o.op)).holds Q Qp := h1
            rw [T.holds_bind] at h1
            refine T.holds_mono h1 (fun x hx => ⟨_, hx, fun e => ⟨fun _ => e, fun _ _ _ _ _ _ _ => e⟩⟩) fun _ _ h => h
          · refine (show ∃ fl, Q ((.v undef, A), fl) ∧ (fl = true → PW all st o) from ⟨true, h.2 e, fun _ => ⟨fun e => by rw [hg] at e; (cases e), fun g' e' p' d' h1 h2 h3 => ?_⟩⟩)
            rw [hg] at e'; cases e'; rw [hp] at h1; cases h1; rw [hd] at h2; cases h2
            rw [hs] at h3; cases h3; simp at e
        | v y => rw [hs] at h; obtain ⟨h1, h2⟩ := brn_ok h; exact (show (isBoolV y = true → _) ∧ (isBoolV y = false → _) from ⟨(fun e => by rw [h1] at e; cases e), fun _ => (show ∃ fl, Q ((.v undef, A), fl) ∧ (fl = true → PW all st o) from ⟨true, h2, fun _ => no (by rw [hs]; simp)⟩)⟩)
        | top => rw [hs] at h; exact h.elim
        | _ => rw [hs] at h; exact (show ∃ fl, Q ((.v undef, A), fl) ∧ (fl = true → PW all st o) from ⟨true, h, fun _ => no (by rw [hs]; simp)⟩)
theorem bif2_tt {b c : Bool} (h : bif2 b c false = true) : b = true ∧ c = true := by cases b <;> cases c <;> first | exact ⟨rfl, rfl⟩ | cases h
theorem allTop_get (l : List AV) (h : allTop l = true) : ∀ x ∈ l, x = .top := by
  induction l with
  | nil => intro x hx; cases hx
  | cons y l ih =>
    obtain ⟨h1, h2⟩ := bif2_tt (show bif2 (isTopA y) (allTop l) false = true from h)
    intro x hx
    rcases List.mem_cons.1 hx with rfl | hx
    · cases x <;> first | rfl | cases h1
    · exact ih h2 x hx
theorem noClash_spec {G : GS} {id off sz : Nat} : ∀ (j : Nat), noClash G id off sz j = true → ∀ k, k < j → ∀ id' off' l', G k = some (id', off', l') → id' = id → off + sz ≤ off' ∨ off' + l'.length ≤ off := by
  intro j
  induction j with
  | zero => intro _ k hk; omega
  | succ j ih =>
    intro h k hk id' off' l' hG e
    obtain ⟨h1, h2⟩ := bif2_tt (show bif2 (@Option.rec (Nat × Nat × List AV) (fun _ => Bool) true (fun g => bif2 (Nat.beq g.1 id) (bif2 (Nat.ble (off + sz) g.2.1) true (Nat.ble (g.2.1 + g.2.2.length) off)) true) (G j)) (noClash G id off sz j) false = true from h)
    rcases Nat.lt_or_ge k j with h3 | h3
    · exact ih h2 k h3 id' off' l' hG e
    · obtain rfl : k = j := by omega
      rw [hG] at h1
      subst e
      have h1 : bif2 (Nat.beq id' id') (bif2 (Nat.ble (off + sz) off') true (Nat.ble (off' + l'.length) off)) true = true := h1
      rw [bif2_eq, if_pos (Nat.beq_refl _), bif2_eq] at h1
      split at h1
      · rename_i h4; exact .inl (Nat.le_of_ble_eq_true h4)
      · exact .inr (Nat.le_of_ble_eq_true h1)
/-- A store to what is there. -/
structure FltAt (tt : TT) (M0 : Mem) (G : GS) (j : Nat) (st : Tmps) (o : Oper) : Prop where
  ex : ∃ t a x id r c e rs cells, o.op = .store t a x ∧ o.guard = none ∧ o.dst = none ∧ (tt t).u ≠ .bad ∧ evA st a = .ptr id r c ∧ M0.get id = .own e rs cells ∧ G j = some (id, r * rs + c, (evA st x).cells) ∧
    M0.lock ≤ id ∧ id < M0.next ∧ allLeaf (evA st x).cells = true ∧ (evA st x).cells.length = (tt t).size ∧ r * rs + c + (tt t).size ≤ cells.length ∧ (∀ y ∈ (cells.drop (r * rs + c)).take (tt t).size, y = .top) ∧
    ∀ k, k < j → ∀ off' l', G k = some (id, off', l') → r * rs + c + (tt t).size ≤ off' ∨ off' + l'.length ≤ r * rs + c
theorem isStore_some {o : Oper} {t : TypeId} {a x : Operand} (h : isStore o = some (t, a, x)) : o.op = .store t a x ∧ o.guard = none ∧ o.dst = none := by
  unfold isStore at h
  cases ho : o.op with
  | store t' a' x' =>
    rw [ho] at h
    cases hg : o.guard with
    | none =>
      rw [hg] at h
      cases hd : o.dst with
      | none => rw [hd] at h; cases h; exact ⟨rfl, rfl, rfl⟩
      | some d => rw [hd] at h; cases h
    | some g => rw [hg] at h; cases h
  | _ => rw [ho] at h; cases h
theorem fltGo_ok {β : Type} {M0 : Mem} {st : Tmps} {G : GS} {j : Nat} {t : TypeId} {a x : Operand} {k : Nat × Nat × List AV → T β} {Q : β → Prop} {Qp : AV → Mem → Prop} (h : (fltGo tt M0 st G j t a x k).holds Q Qp) :
    ∃ id r c e rs cells, evA st a = .ptr id r c ∧ M0.get id = .own e rs cells ∧ fltOk M0 G j id (r * rs + c) (tt t).size (evA st x).cells cells = true ∧ (k (id, r * rs + c, (evA st x).cells)).holds Q Qp := by
  obtain ⟨id, r, c, ha, h⟩ := onPtr_ok h
  cases hg : M0.get id with
  | own e rs cells =>
    rw [hg] at h
    obtain ⟨h1, h2⟩ := ck_ok h
    exact ⟨id, r, c, e, rs, cells, ha, hg, h1, h2⟩
  | dead => rw [hg] at h; exact h.elim
  | ro a b c => rw [hg] at h; exact h.elim
  | vec a b c => rw [hg] at h; exact h.elim
theorem fltOk_spec {M0 : Mem} {G : GS} {j id off sz : Nat} {l cells : List AV} (h : fltOk M0 G j id off sz l cells = true) : M0.lock ≤ id ∧ id < M0.next ∧ allLeaf l = true ∧ l.length = sz ∧ off + sz ≤ cells.length ∧ (∀ y ∈ (cells.drop off).take sz, y = .top) ∧ noClash G id off sz j = true := by
  unfold fltOk at h
  obtain ⟨h1, h⟩ := bif2_tt h
  obtain ⟨h2, h⟩ := bif2_tt h
  obtain ⟨h3, h⟩ := bif2_tt h
  obtain ⟨h4, h⟩ := bif2_tt h
  obtain ⟨h5, h⟩ := bif2_tt h
  obtain ⟨h6, h⟩ := bif2_tt h
  exact ⟨Nat.le_of_ble_eq_true h1, by simpa [Nat.blt_eq] using h2, h3, Nat.eq_of_beq_eq_true h4, Nat.le_of_ble_eq_true h5, allTop_get _ h6, h⟩
theorem drawGo_ok {all : List Oper} {mk : Nat → Nat} {M0 : Mem} {st0 : Tmps} {big : Nat} (hmk : ∀ j k, Nat.testBit (mk j) k = true → k < j) (l : List Oper) : ∀ {j : Nat} {R : DR} {F : Nat → Bool} {G : GS} {Q : DG → Prop} {Qp : AV → Mem → Prop}
    (_ : ∀ k, j ≤ k → G k = none) (_ : (drawGo P tt callF all mk M0 st0 big l j R F G).holds Q Qp), ∃ R' F' G', Q (R', F', G') ∧ (∀ k, k < j → R' k = R k ∧ F' k = F k ∧ G' k = G k) ∧ (∀ k, j + l.length ≤ k → G' k = none) ∧
      ∀ i o, l[i]? = some o → (G' (j + i) = none ∧ (drawOp P tt callF all (memA M0 big R' (mk (j + i)) (j + i)) (stA R' st0 (mk (j + i)) all 0) o).holds (· = R' (j + i)) (fun _ _ => False) ∧ (R' (j + i)).2.next ≤ M0.next + (j + i + 1) * big ∧
        (F' (j + i) = true → PW all (stA R' st0 (mk (j + i)) all 0) o)) ∨ (FltAt tt M0 G' (j + i) (stA R' st0 (mk (j + i)) all 0) o ∧ R' (j + i) = (.v undef, memA M0 big R' (mk (j + i)) (j + i)) ∧ F' (j + i) = false) := by
  induction l with
  | nil => intro j R F G Q Qp hG h; exact ⟨R, F, G, h, fun _ _ => ⟨rfl, rfl, rfl⟩, fun k hk => hG k (by simpa using hk), by simp⟩
  | cons o l ih =>
    intro j R F G Q Qp hG h
    cases hs : isStore o with
    | none =>
      have h : (@Option.rec (TypeId × Operand × Operand) (fun _ => T DG) ((drawOpF P tt callF all (memA M0 big R (mk j) j) (stA R st0 (mk j) all 0) o).bind fun x =>
        .ck (Nat.ble x.1.2.next (M0.next + (j + 1) * big)) (drawGo P tt callF all mk M0 st0 big l (j + 1) (upd R j x.1) (upd F j x.2) G)) (fun s => onK (tt s.1).u
        (fltGo tt M0 (stA R st0 (mk j) all 0) G j s.1 s.2.1 s.2.2 fun g => drawGo P tt callF all mk M0 st0 big l (j + 1) (upd R j (.v undef, memA M0 big R (mk j) j)) (upd F j false) (upd G j (some g)))
        (fltGo tt M0 (stA R st0 (mk j) all 0) G j s.1 s.2.1 s.2.2 fun g => drawGo P tt callF all mk M0 st0 big l (j + 1) (upd R j (.v undef, memA M0 big R (mk j) j)) (upd F j false) (upd G j (some g)))) (isStore o)).holds Q Qp := h
      rw [hs] at h
      have h : ((drawOpF P tt callF all (memA M0 big R (mk j) j) (stA R st0 (mk j) all 0) o).bind fun x =>
        .ck (Nat.ble x.1.2.next (M0.next + (j + 1) * big)) (drawGo P tt callF all mk M0 st0 big l (j + 1) (upd R j x.1) (upd F j x.2) G)).holds Q Qp := h
      rw [T.holds_bind] at h
      obtain ⟨x, hx, hh⟩ := T.leaf (drawOp_nopan (drawOpF_ok h))
      obtain ⟨fl, hx, hfl⟩ := hx
      obtain ⟨hn, hrest⟩ := ck_ok (show (T.ck (Nat.ble x.2.next (M0.next + (j + 1) * big)) (drawGo P tt callF all mk M0 st0 big l (j + 1) (upd R j x) (upd F j fl) G)).holds Q Qp from hx)
      obtain ⟨R', F', G', hq, hR, hGn, hall⟩ := ih (fun k hk => hG k (by omega)) hrest
      have hRj : R' j = x := by rw [(hR j (by omega)).1, upd_eq, if_pos rfl]
      have hFj : F' j = fl := by rw [(hR j (by omega)).2.1, upd_eq, if_pos rfl]
      have hRlt : ∀ k, k < j → R' k = R k ∧ F' k = F k ∧ G' k = G k := fun k hk => by rw [(hR k (by omega)).1, (hR k (by omega)).2.1, (hR k (by omega)).2.2, upd_eq, upd_eq, if_neg (by omega), if_neg (by omega)]; exact ⟨rfl, rfl, rfl⟩
      refine ⟨R', F', G', hq, hRlt, fun k hk => hGn k (by simp only [List.length_cons] at hk; omega), fun i p hp => ?_⟩
      cases i with
      | zero =>
        simp only [List.getElem?_cons_zero, Option.some.injEq] at hp
        subst hp
        simp only [Nat.add_zero]
        have e1 : memA M0 big R' (mk j) j = memA M0 big R (mk j) j := memA_congr fun k hk => (hRlt k (hmk j k hk)).1
        have e2 : stA R' st0 (mk j) all 0 = stA R st0 (mk j) all 0 := stA_congr (fun k hk => (hRlt k (hmk j k hk)).1) all 0
        rw [e1, e2, hRj, hFj]
        exact .inl ⟨by rw [(hR j (by omega)).2.2]; exact hG j (Nat.le_refl _), hh, Nat.le_of_ble_eq_true hn, hfl⟩
      | succ i =>
        have := hall i p (by simpa using hp)
        rwa [show j + 1 + i = j + (i + 1) by omega] at this
    | some s =>
      obtain ⟨t, a, x⟩ := s
      have h : (@Option.rec (TypeId × Operand × Operand) (fun _ => T DG) ((drawOpF P tt callF all (memA M0 big R (mk j) j) (stA R st0 (mk j) all 0) o).bind fun x =>
        .ck (Nat.ble x.1.2.next (M0.next + (j + 1) * big)) (drawGo P tt callF all mk M0 st0 big l (j + 1) (upd R j x.1) (upd F j x.2) G)) (fun s => onK (tt s.1).u
        (fltGo tt M0 (stA R st0 (mk j) all 0) G j s.1 s.2.1 s.2.2 fun g => drawGo P tt callF all mk M0 st0 big l (j + 1) (upd R j (.v undef, memA M0 big R (mk j) j)) (upd F j false) (upd G j (some g)))
        (fltGo tt M0 (stA R st0 (mk j) all 0) G j s.1 s.2.1 s.2.2 fun g => drawGo P tt callF all mk M0 st0 big l (j + 1) (upd R j (.v undef, memA M0 big R (mk j) j)) (upd F j false) (upd G j (some g)))) (isStore o)).holds Q Qp := h
      rw [hs] at h
      obtain ⟨hb, h⟩ := onK_both (show (onK (tt t).u (fltGo tt M0 (stA R st0 (mk j) all 0) G j t a x fun g => drawGo P tt callF all mk M0 st0 big l (j + 1) (upd R j (.v undef, memA M0 big R (mk j) j)) (upd F j false) (upd G j (some g)))
        (fltGo tt M0 (stA R st0 (mk j) all 0) G j t a x fun g => drawGo P tt callF all mk M0 st0 big l (j + 1) (upd R j (.v undef, memA M0 big R (mk j) j)) (upd F j false) (upd G j (some g)))).holds Q Qp from h)
      obtain ⟨id, r, c, e, rs, cells, ha, hg, hok, hrest⟩ := fltGo_ok h
      obtain ⟨R', F', G', hq, hR, hGn, hall⟩ := ih (fun k hk => by rw [upd_eq, if_neg (by omega)]; exact hG k (by omega)) hrest
      have hRj : R' j = (.v undef, memA M0 big R (mk j) j) := by rw [(hR j (by omega)).1, upd_eq, if_pos rfl]
      have hFj : F' j = false := by rw [(hR j (by omega)).2.1, upd_eq, if_pos rfl]
      have hGj : G' j = some (id, r * rs + c, (evA (stA R st0 (mk j) all 0) x).cells) := by rw [(hR j (by omega)).2.2, upd_eq, if_pos rfl]
      have hRlt : ∀ k, k < j → R' k = R k ∧ F' k = F k ∧ G' k = G k := fun k hk => by rw [(hR k (by omega)).1, (hR k (by omega)).2.1, (hR k (by omega)).2.2, upd_eq, upd_eq, upd_eq, if_neg (by omega), if_neg (by omega), if_neg (by omega)]; exact ⟨rfl, rfl, rfl⟩
      refine ⟨R', F', G', hq, hRlt, fun k hk => hGn k (by simp only [List.length_cons] at hk; omega), fun i p hp => ?_⟩
      cases i with
      | zero =>
        simp only [List.getElem?_cons_zero, Option.some.injEq] at hp
        subst hp
        simp only [Nat.add_zero]
        have e1 : memA M0 big R' (mk j) j = memA M0 big R (mk j) j := memA_congr fun k hk => (hRlt k (hmk j k hk)).1
        have e2 : stA R' st0 (mk j) all 0 = stA R st0 (mk j) all 0 := stA_congr (fun k hk => (hRlt k (hmk j k hk)).1) all 0
        obtain ⟨k1, k2, k3, k4, k5, k6, k7⟩ := fltOk_spec hok
        obtain ⟨o1, o2, o3⟩ := isStore_some hs
        rw [e1, e2, hRj, hFj]
        exact .inr ⟨⟨t, a, x, id, r, c, e, rs, cells, o1, o2, o3, hb, ha, hg, hGj, k1, k2, k3, k4, k5, k6, fun k hk off' l' hG' => noClash_spec j k7 k hk id off' l' (by rw [← (hRlt k hk).2.2]; exact hG') rfl⟩, rfl, rfl⟩
      | succ i =>
        have := hall i p (by simpa using hp)
        rwa [show j + 1 + i = j + (i + 1) by omega] at this
end
end Go.Eng
