/- Lemmas about the evaluator of the code. -/
import Derived.Test.YtiokhipgpfeoeaaEngU
set_option linter.all false
set_option linter.deprecated false
set_option autoImplicit false
namespace Go.Eng
open Go Go.RowKit

/-! ## Loops: from head to head -/
abbrev St3 := List AV × Nat × List AObj
/-- The path of a loop; the objects that were there ahead of it; what its head is told. -/
abbrev Stop := List Nat × Nat × St3
noncomputable def headV (base : Nat) (roots : List AV) (keep : Keep) (st : Tmps) (M : Mem) : T St3 :=
  compactU base (roots ++ mapL (keepOnly keep.l st) keep.l) M fun f M => .ret (mapL (fun t => f (keepOnly keep.l st t)) keep.l, M.lock, mapL M.get (iota M.next))
theorem headV_bind {base : Nat} {roots : List AV} {keep : Keep} {st : Tmps} {M : Mem} (hz : keep.z = false) (k : Tmps → Mem → T Res) :
    headF base roots keep st M k = (headV base roots keep st M).bind fun s => k (cst keep.l s.1) (memL s.2.1 s.2.2) := by
  unfold headF headV
  rw [hz, bif2_eq, if_neg Bool.false_ne_true]
  unfold compactU
  generalize Nat.beq M.next base = b
  cases b <;> rfl
theorem headV_leaf {base : Nat} {roots : List AV} {keep : Keep} {st : Tmps} {M : Mem} {Q : St3 → Prop} {Qp : AV → Mem → Prop} (h : (headV base roots keep st M).holds Q Qp) : (headV base roots keep st M).holds Q (fun _ _ => False) := by
  unfold headV at h ⊢
  unfold compactU at h ⊢
  rw [bif2_eq] at h ⊢
  split
  · rename_i e; rw [if_pos e] at h; exact h
  · rename_i e; rw [if_neg e] at h; exact h
theorem T.bind_assoc {α β γ : Type} (x : T α) (f : α → T β) (g : β → T γ) : (x.bind f).bind g = x.bind fun a => (f a).bind g := by
  induction x with
  | ret a => rfl
  | br b t e iht ihe => show T.br b ((t.bind f).bind g) ((e.bind f).bind g) = T.br b (t.bind fun a => (f a).bind g) (e.bind fun a => (f a).bind g); rw [iht, ihe]
  | pan x M => rfl
  | ck b t ih => show T.ck b ((t.bind f).bind g) = T.ck b (t.bind fun a => (f a).bind g); rw [ih]
  | fail => rfl
theorem T.bind_ret {α : Type} (x : T α) : x.bind .ret = x := by
  induction x with
  | ret a => rfl
  | br b t e iht ihe => show T.br b (t.bind .ret) (e.bind .ret) = _; rw [iht, ihe]
  | pan x M => rfl
  | ck b t ih => show T.ck b (t.bind .ret) = _; rw [ih]
  | fail => rfl
theorem H.of_bind {α β : Type} {x : T α} {f : α → T β} {Q : β → Prop} {Qp : AV → Mem → Prop} (h : H (x.bind f) Q Qp) : H x (fun a => H (f a) Q Qp) Qp := ⟨by
  have := h.out
  rw [T.holds_bind] at this
  exact T.holds_mono this (fun _ h => ⟨h⟩) fun _ _ h => h⟩

section
variable (P : Program) (tt : TT) (callF : FuncId → List AV → Mem → T (AV × Mem)) (roots : List AV) (keep : Keep) (L big : Nat)

/-- What follows part 'a' of a sequence. -/
noncomputable def seqK {α : Type} (b : Code) (K : Res → T α) : Res → T α := fun r => (onX r (evCode P tt callF roots keep L big b) fun j => .ret (.exit j, r.2)).bind K
noncomputable def blockK {α : Type} (id : Nat) (K : Res → T α) : Res → T α := fun r => (onX r (fun st M => .ret (.normal, st, M)) fun j => bif2 (Nat.beq j id) (.ret (.normal, r.2)) (.ret (.exit j, r.2))).bind K
/-- What is behind the head of a loop; all that is told of its begin is what its head is told. -/
def LoopGo {α : Type} (c : Code) (base : Nat) (s : St3) (K : Res → T α) (Q : α → Prop) (Qp : AV → Mem → Prop) : Prop :=
  ∀ st M, M.next = base → (headV base roots keep st M).holds (· = s) (fun _ _ => False) → H ((evCode P tt callF roots keep L big (.loop c) st M).bind K) Q Qp
def loopAt : Code → List Nat → Option Code
  | .loop c, [] => some c
  | .seq a _, 0 :: p => loopAt a p
  | .seq _ b, 1 :: p => loopAt b p
  | .cond _ a _, 0 :: p => loopAt a p
  | .cond _ _ b, 1 :: p => loopAt b p
  | .block _ a, 0 :: p => loopAt a p
  | _, _ => none
/-- What follows a loop. -/
noncomputable def contK {α : Type} : Code → List Nat → (Res → T α) → Res → T α
  | .loop _, [], K => K
  | .seq a b, 0 :: p, K => contK a p (seqK P tt callF roots keep L big b K)
  | .seq _ b, 1 :: p, K => contK b p K
  | .cond _ a _, 0 :: p, K => contK a p K
  | .cond _ _ b, 1 :: p, K => contK b p K
  | .block id a, 0 :: p, K => contK a p (blockK id K)
  | _, _, _ => fun _ => .fail
/-- Up to the next loop's head. -/
noncomputable def evS {α : Type} (pre : List Nat) (c : Code) : Tmps → Mem → (Res → T (α ⊕ Stop)) → T (α ⊕ Stop) :=
  @Code.rec (fun _ => List Nat → Tmps → Mem → (Res → T (α ⊕ Stop)) → T (α ⊕ Stop))
    (fun _ st M K => K (.normal, st, M))
    (fun id ops draw _ st M K => (evCode P tt callF roots keep L big (.region id ops draw) st M).bind K)
    (fun _ _ iha ihb pre st M K => iha (0 :: pre) st M fun r => @X.casesOn (fun _ => T (α ⊕ Stop)) r.1 (ihb (1 :: pre) r.2.1 r.2.2 K) (fun j => K (.exit j, r.2)) (K (.ret, r.2)))
    (fun c _ _ iht ihe pre st M K => onB (evA st c) fun b => .br b (iht (0 :: pre) (setB c true st) M K) (ihe (1 :: pre) (setB c false st) M K))
    (fun id _ ih pre st M K => ih (0 :: pre) st M fun r => @X.casesOn (fun _ => T (α ⊕ Stop)) r.1 (K (.normal, r.2)) (fun j => bif2 (Nat.beq j id) (K (.normal, r.2)) (K (.exit j, r.2))) (K (.ret, r.2)))
    (fun _ _ pre st M _ => (headV M.next roots keep st M).bind fun s => .ret (.inr (pre, M.next, s)))
    (fun _ _ _ _ _ _ _ _ _ _ => .fail)
    (fun id _ st M K => K (.exit id, st, M))
    (fun _ _ _ _ _ _ => .fail)
    (fun _ _ _ _ _ => .fail)
    (fun _ _ _ _ _ => .fail)
    (fun _ st M K => K (.ret, st, M))
    (fun _ _ _ _ _ => .fail)
    c pre
/-- What follows a loop, up to the next loop's head. -/
noncomputable def contR {α : Type} : Code → List Nat → List Nat → (Res → T (α ⊕ Stop)) → Res → T (α ⊕ Stop)
  | .loop _, [], _, K => K
  | .seq a b, 0 :: p, pre, K => contR a p (0 :: pre) fun r => @X.casesOn (fun _ => T (α ⊕ Stop)) r.1 (evS (α := α) P tt callF roots keep L big (1 :: pre) b r.2.1 r.2.2 K) (fun j => K (.exit j, r.2)) (K (.ret, r.2))
  | .seq _ b, 1 :: p, pre, K => contR b p (1 :: pre) K
  | .cond _ a _, 0 :: p, pre, K => contR a p (0 :: pre) K
  | .cond _ _ b, 1 :: p, pre, K => contR b p (1 :: pre) K
  | .block id a, 0 :: p, pre, K => contR a p (0 :: pre) fun r => @X.casesOn (fun _ => T (α ⊕ Stop)) r.1 (K (.normal, r.2)) (fun j => bif2 (Nat.beq j id) (K (.normal, r.2)) (K (.exit j, r.2))) (K (.ret, r.2))
  | _, _, _, _ => fun _ => .fail
end

section
variable {P : Program} {tt : TT} {callF : FuncId → List AV → Mem → T (AV × Mem)} {roots : List AV} {keep : Keep} {L big : Nat}

/-- What is asked of the end, or of the next stop. -/
def OkY {α : Type} (Q : α → Prop) (G : Stop → Prop) : α ⊕ Stop → Prop := fun y => match y with
  | .inl a => Q a
  | .inr s => G s
theorem onX_K {α : Type} {r : Res} {f : Tmps → Mem → T Res} {e : Nat → T Res} {K : Res → T α} {Q : α → Prop} {Qp : AV → Mem → Prop}
    (h : H (@X.casesOn (fun _ => T α) r.1 ((f r.2.1 r.2.2).bind K) (fun j => (e j).bind K) (K (.ret, r.2))) Q Qp) : H ((onX r f e).bind K) Q Qp := by
  obtain ⟨x, st, M⟩ := r
  cases x <;> exact h

theorem evS_ok {α : Type} {Q : α → Prop} {Qp : AV → Mem → Prop} {G : Stop → Prop} (c : Code) : ∀ {pre : List Nat} {st : Tmps} {M : Mem} {K : Res → T α} {KR : Res → T (α ⊕ Stop)}
    (_ : ∀ r, H (KR r) (OkY Q G) Qp → H (K r) Q Qp)
    (_ : ∀ p base s, G (p ++ pre, base, s) → ∃ l, loopAt c p.reverse = some l ∧ LoopGo P tt callF roots keep L big l base s (contK P tt callF roots keep L big c p.reverse K) Q Qp)
    (_ : H (evS P tt callF roots keep L big pre c st M KR) (OkY Q G) Qp), H ((evCode P tt callF roots keep L big c st M).bind K) Q Qp := by
  induction c with
  | skip => intro pre st M K KR hK _ h; exact hK _ h
  | region id ops draw =>
    intro pre st M K KR hK _ h
    have h : H ((evCode P tt callF roots keep L big (.region id ops draw) st M).bind KR) (OkY Q G) Qp := h
    exact H.bind ((H.of_bind h).mono hK)
  | seq a b iha ihb =>
    intro pre st M K KR hK hG h
    have e : (evCode P tt callF roots keep L big (.seq a b) st M).bind K = (evCode P tt callF roots keep L big a st M).bind (seqK P tt callF roots keep L big b K) := T.bind_assoc _ _ _
    rw [e]
    refine iha (pre := 0 :: pre) (KR := fun r => @X.casesOn (fun _ => T (α ⊕ Stop)) r.1 (evS P tt callF roots keep L big (1 :: pre) b r.2.1 r.2.2 KR) (fun j => KR (.exit j, r.2)) (KR (.ret, r.2))) ?_ ?_ h
    · intro r hr
      refine onX_K ?_
      obtain ⟨x, st, M⟩ := r
      cases x with
      | normal =>
        refine ihb (pre := 1 :: pre) hK ?_ hr
        intro p base s hg
        have := hG (p ++ [1]) base s (by simpa using hg)
        simpa [loopAt, contK] using this
      | exit j => exact hK _ hr
      | ret => exact hK _ hr
    · intro p base s hg
      have := hG (p ++ [0]) base s (by simpa using hg)
      simpa [loopAt, contK] using this
  | cond o a b iha ihb =>
    intro pre st M K KR hK hG h
    have h : H (onB (evA st o) fun t => .br t (evS P tt callF roots keep L big (0 :: pre) a (setB o true st) M KR) (evS P tt callF roots keep L big (1 :: pre) b (setB o false st) M KR)) (OkY Q G) Qp := h
    obtain ⟨t, ht, h⟩ := onB_ok h.out
    have e : evCode P tt callF roots keep L big (.cond o a b) st M = onB (evA st o) fun t => .br t (evCode P tt callF roots keep L big a (setB o true st) M) (evCode P tt callF roots keep L big b (setB o false st) M) := rfl
    rw [e, ht]
    show H (T.br t ((evCode P tt callF roots keep L big a (setB o true st) M).bind K) ((evCode P tt callF roots keep L big b (setB o false st) M).bind K)) Q Qp
    refine H.br (fun e => iha (pre := 0 :: pre) hK ?_ ⟨h.1 e⟩) (fun e => ihb (pre := 1 :: pre) hK ?_ ⟨h.2 e⟩)
    · intro p base s hg
      have := hG (p ++ [0]) base s (by simpa using hg)
      simpa [loopAt, contK] using this
    · intro p base s hg
      have := hG (p ++ [1]) base s (by simpa using hg)
      simpa [loopAt, contK] using this
  | block id a ih =>
    intro pre st M K KR hK hG h
    have e : (evCode P tt callF roots keep L big (.block id a) st M).bind K = (evCode P tt callF roots keep L big a st M).bind (blockK id K) := T.bind_assoc _ _ _
    rw [e]
    refine ih (pre := 0 :: pre) (KR := fun r => @X.casesOn (fun _ => T (α ⊕ Stop)) r.1 (KR (.normal, r.2)) (fun j => bif2 (Nat.beq j id) (KR (.normal, r.2)) (KR (.exit j, r.2))) (KR (.ret, r.2))) ?_ ?_ h
    · intro r hr
      refine onX_K ?_
      obtain ⟨x, st, M⟩ := r
      cases x with
      | normal => exact hK _ hr
      | exit j =>
        have hr : H (bif2 (Nat.beq j id) (KR (.normal, st, M)) (KR (.exit j, st, M))) (OkY Q G) Qp := hr
        show H ((bif2 (Nat.beq j id) (.ret (.normal, st, M)) (.ret (.exit j, st, M)) : T Res).bind K) Q Qp
        rw [bif2_eq] at hr ⊢
        split
        · rename_i e; rw [if_pos e] at hr; exact hK _ hr
        · rename_i e; rw [if_neg e] at hr; exact hK _ hr
      | ret => exact hK _ hr
    · intro p base s hg
      have := hG (p ++ [0]) base s (by simpa using hg)
      simpa [loopAt, contK] using this
  | loop a ih =>
    intro pre st M K KR hK hG h
    have h : H ((headV M.next roots keep st M).bind fun s => .ret (.inr (pre, M.next, s))) (OkY Q G) Qp := h
    obtain ⟨s, hs, hleaf⟩ := T.leaf (headV_leaf (H.of_bind h).out)
    obtain ⟨l, h1, h2⟩ := hG [] M.next s hs.out
    cases h1
    exact h2 st M rfl hleaf
  | exit id => intro pre st M K KR hK _ h; exact hK _ h
  | ret => intro pre st M K KR hK _ h; exact hK _ h
  | _ => intro pre st M K KR hK _ h; exact h.out.elim

theorem contR_ok {α : Type} {Q : α → Prop} {Qp : AV → Mem → Prop} {G : Stop → Prop} (c : Code) : ∀ {pre p : List Nat} {K : Res → T α} {KR : Res → T (α ⊕ Stop)}
    (_ : ∀ r, H (KR r) (OkY Q G) Qp → H (K r) Q Qp)
    (_ : ∀ p base s, G (p ++ pre, base, s) → ∃ l, loopAt c p.reverse = some l ∧ LoopGo P tt callF roots keep L big l base s (contK P tt callF roots keep L big c p.reverse K) Q Qp)
    (r : Res) (_ : H (contR P tt callF roots keep L big c p pre KR r) (OkY Q G) Qp), H (contK P tt callF roots keep L big c p K r) Q Qp := by
  induction c with
  | seq a b iha ihb =>
    intro pre p K KR hK hG r h
    match p with
    | [] => exact h.out.elim
    | 0 :: p =>
      refine iha (pre := 0 :: pre) (K := seqK P tt callF roots keep L big b K) (KR := fun r => @X.casesOn (fun _ => T (α ⊕ Stop)) r.1 (evS P tt callF roots keep L big (1 :: pre) b r.2.1 r.2.2 KR) (fun j => KR (.exit j, r.2)) (KR (.ret, r.2))) ?_ ?_ r h
      · intro r hr
        refine onX_K ?_
        obtain ⟨x, st, M⟩ := r
        cases x with
        | normal =>
          refine evS_ok b (pre := 1 :: pre) hK ?_ hr
          intro p base s hg
          have := hG (p ++ [1]) base s (by simpa using hg)
          simpa [loopAt, contK] using this
        | exit j => exact hK _ hr
        | ret => exact hK _ hr
      · intro p base s hg
        have := hG (p ++ [0]) base s (by simpa using hg)
        simpa [loopAt, contK] using this
    | 1 :: p =>
      refine ihb (pre := 1 :: pre) hK ?_ r h
      intro p base s hg
      have := hG (p ++ [1]) base s (by simpa using hg)
      simpa [loopAt, contK] using this
    | (n + 2) :: p => exact h.out.elim
  | cond o a b iha ihb =>
    intro pre p K KR hK hG r h
    match p with
    | [] => exact h.out.elim
    | 0 :: p =>
      refine iha (pre := 0 :: pre) hK ?_ r h
      intro p base s hg
      have := hG (p ++ [0]) base s (by simpa using hg)
      simpa [loopAt, contK] using this
    | 1 :: p =>
      refine ihb (pre := 1 :: pre) hK ?_ r h
      intro p base s hg
      have := hG (p ++ [1]) base s (by simpa using hg)
      simpa [loopAt, contK] using this
    | (n + 2) :: p => exact h.out.elim
  | block id a ih =>
    intro pre p K KR hK hG r h
    match p with
    | [] => exact h.out.elim
    | 0 :: p =>
      refine ih (pre := 0 :: pre) (K := blockK id K) (KR := fun r => @X.casesOn (fun _ => T (α ⊕ Stop)) r.1 (KR (.normal, r.2)) (fun j => bif2 (Nat.beq j id) (KR (.normal, r.2)) (KR (.exit j, r.2))) (KR (.ret, r.2))) ?_ ?_ r h
      · intro r hr
        refine onX_K ?_
        obtain ⟨x, st, M⟩ := r
        cases x with
        | normal => exact hK _ hr
        | exit j =>
          have hr : H (bif2 (Nat.beq j id) (KR (.normal, st, M)) (KR (.exit j, st, M))) (OkY Q G) Qp := hr
          show H ((bif2 (Nat.beq j id) (.ret (.normal, st, M)) (.ret (.exit j, st, M)) : T Res).bind K) Q Qp
          rw [bif2_eq] at hr ⊢
          split
          · rename_i e; rw [if_pos e] at hr; exact hK _ hr
          · rename_i e; rw [if_neg e] at hr; exact hK _ hr
        | ret => exact hK _ hr
      · intro p base s hg
        have := hG (p ++ [0]) base s (by simpa using hg)
        simpa [loopAt, contK] using this
    | (n + 1) :: p => exact h.out.elim
  | loop a ih =>
    intro pre p K KR hK hG r h
    match p with
    | [] => exact hK _ h
    | n :: p => exact h.out.elim
  | _ => intro pre p K KR hK hG r h; exact h.out.elim

/-- One round: again at the head, or out. -/
noncomputable def stepR {α : Type} (roots : List AV) (keep : Keep) (base : Nat) (K : Res → T α) : Res → T (St3 ⊕ α) := fun r =>
  @X.casesOn (fun _ => T (St3 ⊕ α)) r.1 ((headV base roots keep r.2.1 r.2.2).bind fun s => .ret (.inl s)) (fun j => (K (.exit j, r.2)).bind fun y => .ret (.inr y)) ((K (.ret, r.2)).bind fun y => .ret (.inr y))
def OkS {α : Type} (I : St3 → Prop) (Q : α → Prop) : St3 ⊕ α → Prop := fun y => match y with
  | .inl s => I s
  | .inr a => Q a
theorem loop_go {α : Type} {c : Code} {base : Nat} {K : Res → T α} {Q : α → Prop} {Qp : AV → Mem → Prop} (hz : keep.z = false) (Inv : Nat → St3 → Prop)
    (step : ∀ m s, Inv m s → H ((evCode P tt callF roots keep L big c (cst keep.l s.1) (memL s.2.1 s.2.2)).bind (stepR roots keep base K)) (OkS (fun s' => ∃ m', m' < m ∧ Inv m' s') Q) Qp) :
    ∀ m s, m < L → Inv m s → LoopGo P tt callF roots keep L big c base s K Q Qp := by
  intro m s hmL hi st M hb hs
  refine ⟨?_⟩
  show ((forceN M.next fun base => (@Nat.rec (fun _ => Tmps → Mem → T Res) (fun _ _ => .fail) (fun _ again st M => headF base roots keep st M fun st M => (evCode P tt callF roots keep L big c st M).bind fun r => onX r again fun j => .ret (.exit j, r.2)) L : Tmps → Mem → T Res) st M).bind K).holds Q Qp
  rw [forceN_eq, hb]
  have key : ∀ (k : Nat) (st1 : Tmps) (M1 : Mem), (headV base roots keep st1 M1).holds (fun s => ∃ m, m < k ∧ Inv m s) Qp →
      (((@Nat.rec (fun _ => Tmps → Mem → T Res) (fun _ _ => .fail) (fun _ again st M => headF base roots keep st M fun st M => (evCode P tt callF roots keep L big c st M).bind fun r => onX r again fun j => .ret (.exit j, r.2)) k : Tmps → Mem → T Res) st1 M1).bind K).holds Q Qp := by
    intro k
    induction k with
    | zero => intro st1 M1 h; obtain ⟨s, ⟨m, h, _⟩, _⟩ := T.leaf (headV_leaf h); omega
    | succ k ih =>
      intro st1 M1 h
      show ((headF base roots keep st1 M1 fun st M => (evCode P tt callF roots keep L big c st M).bind fun r => onX r (@Nat.rec (fun _ => Tmps → Mem → T Res) (fun _ _ => .fail) (fun _ again st M => headF base roots keep st M fun st M => (evCode P tt callF roots keep L big c st M).bind fun r => onX r again fun j => .ret (.exit j, r.2)) k) fun j => .ret (.exit j, r.2)).bind K).holds Q Qp
      rw [headV_bind hz, T.bind_assoc, T.holds_bind]
      refine T.holds_mono h (fun s hs => ?_) fun _ _ h => h
      obtain ⟨m, hm, hi⟩ := hs
      rw [T.bind_assoc, T.holds_bind]
      have := (H.of_bind (step m s hi)).out
      refine T.holds_mono this (fun r hr => ?_) fun _ _ h => h
      obtain ⟨x, st', M'⟩ := r
      cases x with
      | normal =>
        refine ih st' M' ?_
        have hr : H ((headV base roots keep st' M').bind fun s => (.ret (.inl s) : T (St3 ⊕ α))) (OkS (fun s' => ∃ m', m' < m ∧ Inv m' s') Q) Qp := hr
        refine T.holds_mono (H.of_bind hr).out (fun s hs => ?_) fun _ _ h => h
        obtain ⟨m', h1, h2⟩ := hs.out
        exact ⟨m', by omega, h2⟩
      | exit j =>
        have hr : H ((K (.exit j, st', M')).bind fun y => (.ret (.inr y) : T (St3 ⊕ α))) (OkS (fun s' => ∃ m', m' < m ∧ Inv m' s') Q) Qp := hr
        exact T.holds_mono (H.of_bind hr).out (fun s hs => hs.out) fun _ _ h => h
      | ret =>
        have hr : H ((K (.ret, st', M')).bind fun y => (.ret (.inr y) : T (St3 ⊕ α))) (OkS (fun s' => ∃ m', m' < m ∧ Inv m' s') Q) Qp := hr
        exact T.holds_mono (H.of_bind hr).out (fun s hs => hs.out) fun _ _ h => h
  exact key L st M (T.holds_mono hs (fun s' e => ⟨m, hmL, by rw [e]; exact hi⟩) fun _ _ h => h.elim)
end
end Go.Eng
