/- An evaluator of the code of the model, and lemmas of its proof of soundness: what it tells of a call, the call does; no condition but those that each lemma names. -/
import Derived.Test.YtiokhipgpfeoeaaEng2
import Derived.Laws.BytesArg
import Derived.Deep.AppendSrc
set_option linter.all false
set_option linter.deprecated false
set_option autoImplicit false
namespace Go.Eng
open Go Go.RowKit

theorem nth?_eq {α : Type} (l : List α) (i : Nat) : nth? l i = l[i]? := by
  induction l generalizing i with
  | nil => rfl
  | cons x l ih => cases i with
    | zero => rfl
    | succ i => exact ih i
theorem sel_ok {α : Type} {l : List α} {i : Nat} {Q : α → Prop} {Qp : AV → Mem → Prop} (h : (sel l i).holds Q Qp) : ∃ x, l[i]? = some x ∧ Q x := by
  induction l generalizing i with
  | nil => exact h.elim
  | cons x l ih => cases i with
    | zero => exact ⟨x, rfl, h⟩
    | succ i => simpa using ih (i := i) h
theorem onO_ok {α β : Type} {x : Option α} {f : α → T β} {Q : β → Prop} {Qp : AV → Mem → Prop} (h : (onO x f).holds Q Qp) : ∃ a, x = some a ∧ (f a).holds Q Qp := by
  cases x with
  | none => exact h.elim
  | some a => exact ⟨a, rfl, h⟩
theorem bif2_eq {α : Type} (b : Bool) (t e : α) : bif2 b t e = if b = true then t else e := by cases b <;> rfl
theorem upd_eq {α : Type} (f : Nat → α) (i : Nat) (x : α) (j : Nat) : upd f i x j = if j = i then x else f j := by
  unfold upd
  cases h : Nat.beq j i with
  | true => rw [if_pos (Nat.eq_of_beq_eq_true h)]
  | false => rw [if_neg (Nat.ne_of_beq_eq_false h)]
@[simp] theorem Mem.get_set (M : Mem) (id : Nat) (o : AObj) (j : Nat) : (M.set id o).get j = if j = id then o else M.get j := upd_eq ..
@[simp] theorem Mem.get_new (M : Mem) (o : AObj) (j : Nat) : (M.new o).get j = if j = M.next then o else M.get j := upd_eq ..
@[simp] theorem Mem.next_new (M : Mem) (o : AObj) : (M.new o).next = M.next + 1 := rfl
@[simp] theorem Mem.lock_new (M : Mem) (o : AObj) : (M.new o).lock = M.lock := rfl
@[simp] theorem Mem.next_set (M : Mem) (id : Nat) (o : AObj) : (M.set id o).next = M.next := rfl
@[simp] theorem Mem.lock_set (M : Mem) (id : Nat) (o : AObj) : (M.set id o).lock = M.lock := rfl

def updP (φ : Phi) (i : Nat) (x : Option Pl) : Phi := fun j => if j = i then some x else φ j
theorem updP_lt {φ : Phi} {i : Nat} (x : Option Pl) {id : Nat} (h : id < i) : updP φ i x id = φ id := if_neg (Nat.ne_of_lt h)
theorem updP_le {φ : Phi} {i : Nat} (x : Option Pl) (h : φ i = none) : PhiLe φ (updP φ i x) := by
  intro id y e
  unfold updP
  split
  · rename_i hh; subst hh; rw [h] at e; cases e
  · exact e
@[simp] theorem updP_self (φ : Phi) (i : Nat) (x : Option Pl) : updP φ i x i = some x := by simp [updP]

theorem OwnBlock.lt {w : World} {b : Nat} {e : TypeId} {n : Nat} (h : OwnBlock w b e n) : b < w.heap.size := by
  obtain ⟨cur, f, hc, _⟩ := h
  exact (Array.getElem?_eq_some_iff.1 hc).1
theorem OwnBlock.cellSome {w : World} {b : Nat} {e : TypeId} {n : Nat} (h : OwnBlock w b e n) {j : Nat} (hj : j < n) : (w.cell? ⟨b, j, none⟩).isSome = true := by
  obtain ⟨cur, f, hc, hs, _⟩ := h
  simp [World.cell?, hc, hs, hj]
theorem OwnBlock.free {w : World} {b : Nat} {e : TypeId} {n : Nat} (h : OwnBlock w b e n) {j : Nat} (hj : j < n) : w.frozen? ⟨b, j, none⟩ = false := by
  obtain ⟨cur, ⟨f1, f2⟩, hc, hs, hf⟩ := h
  rcases hf with hf | hf
  · cases hf; simp [World.frozen?, hc]
  · have : ¬ (f1 ≤ j) := by simp only at hf; omega
    simp [World.frozen?, hc, this]
theorem cell_eq {w w' : World} {b : Nat} (h : w'.heap[b]? = w.heap[b]?) (o : Nat) (s : Option Nat) : w'.cell? ⟨b, o, s⟩ = w.cell? ⟨b, o, s⟩ := by
  simp only [World.cell?, h]
theorem OwnBlock.same {w w' : World} {b : Nat} {e : TypeId} {n : Nat} (h : OwnBlock w b e n) (hs : w'.heap[b]? = w.heap[b]?) : OwnBlock w' b e n := by
  obtain ⟨cur, f, hc, hn⟩ := h
  exact ⟨cur, f, hs.trans hc, hn⟩

/-- An object in a later world. -/
theorem ObjRel.step {N : Nat} {φ φ' : Phi} {w w' : World} {id : Nat} {o : AObj} (h : ObjRel N φ w id o) (hp : PhiLe φ φ') (hs : SameBelow N w w')
    (ho : isOwn o → ∀ p, φ id = some (some p) → w'.heap[p.b]? = w.heap[p.b]?) : ObjRel N φ' w' id o := by
  cases o with
  | dead => trivial
  | ro nil n cols =>
    obtain ⟨hln, x, hx, hn, h0, hc⟩ := h
    refine ⟨hln, x, hp _ _ hx, hn, h0, fun p hpx => ?_⟩
    obtain ⟨h1, h2, h3⟩ := hc p hpx
    refine ⟨h1, h2, fun j hj c col hcol => ?_⟩
    obtain ⟨z, hz, hr⟩ := h3 j hj c col hcol
    exact ⟨z, (hs.cell (a := p.at j c) (h2 (Nat.lt_of_le_of_lt (Nat.zero_le _) hj)).1).trans hz, hr.same hs⟩
  | own elem rs cells =>
    obtain ⟨p, hpx, h0, h1, h2, h3, h4⟩ := h
    have hb := ho trivial p hpx
    refine ⟨p, hp _ _ hpx, h0, h1, h2.same hb, h3, fun j a ha => ?_⟩
    obtain ⟨z, hz, hr⟩ := h4 j a ha
    exact ⟨z, (cell_eq hb _ _).trans hz, hr.mono hp⟩
  | vec elem n cols =>
    obtain ⟨hln, p, hpx, h0, h1, h2, h3, h4⟩ := h
    have hb := ho trivial p hpx
    refine ⟨hln, p, hp _ _ hpx, h0, h1, h2.same hb, h3, fun j hj c col hcol => ?_⟩
    obtain ⟨z, hz, hr⟩ := h4 j hj c col hcol
    exact ⟨z, (cell_eq hb _ _).trans hz, hr.same hs⟩

/-- A draw changes nothing. -/
theorem Rep.draw {N : Nat} {φ : Phi} {M : Mem} {w : World} (h : Rep N φ M w) : Rep N φ M w.drew :=
  ⟨fun id => (h.objs id).step (.refl _) (fun _ _ => rfl) (fun _ _ _ => rfl), h.sep, h.high, h.fresh, h.size⟩

/-- A new object over what is there (no block of its own). -/
theorem Rep.newRo {N : Nat} {φ : Phi} {M : Mem} {w : World} (h : Rep N φ M w) (nil : Bool) (n : Nat) (cols : List Col) (x : Option Pl) (ho : ObjRel N (updP φ M.next x) w M.next (.ro nil n cols)) :
    Rep N (updP φ M.next x) (M.new (.ro nil n cols)) w ∧ Ext φ M w (updP φ M.next x) (M.new (.ro nil n cols)) w := by
  have hf := (h.fresh M.next (Nat.le_refl _)).2
  have hle := updP_le x hf
  have own : ∀ id p, isOwn ((M.new (.ro nil n cols)).get id) → updP φ M.next x id = some (some p) → isOwn (M.get id) ∧ φ id = some (some p) := by
    intro id p ho hp
    simp only [Mem.get_new] at ho
    split at ho
    · exact ho.elim
    · rename_i hne
      exact ⟨ho, by simpa [updP, hne] using hp⟩
  refine ⟨⟨fun id => ?_, fun id id' p p' ho ho' hp hp' e => ?_, fun id p ho hp => ?_, fun id hid => ?_, h.size⟩, ⟨hle, fun _ h => updP_lt _ h, by simp, rfl, rfl, rfl, rfl, Nat.le_refl _, fun _ _ _ => rfl, fun id p ho hp _ => ⟨id, p, (own id p ho hp).1, (own id p ho hp).2, rfl, fun h => h⟩⟩⟩
  · simp only [Mem.get_new]
    split
    · rename_i e; subst e; exact ho
    · exact (h.objs id).step hle (fun _ _ => rfl) (fun _ _ _ => rfl)
  · obtain ⟨h1, h2⟩ := own id p ho hp
    obtain ⟨h3, h4⟩ := own id' p' ho' hp'
    exact h.sep id id' p p' h1 h3 h2 h4 e
  · obtain ⟨h1, h2⟩ := own id p ho hp
    exact h.high id p h1 h2
  · simp only [Mem.next_new] at hid
    have hne : id ≠ M.next := by omega
    simp only [Mem.get_new, if_neg hne]
    obtain ⟨h1, h2⟩ := h.fresh id (by omega)
    exact ⟨h1, by simp [updP, hne, h2]⟩

theorem push_same (w : World) (o : Obj) (b : Nat) (hb : b < w.heap.size) : (w.alloc o).heap[b]? = w.heap[b]? := by
  show (w.heap.push o)[b]? = _
  rw [Array.getElem?_push, if_neg (by omega)]
theorem alloc_size (w : World) (o : Obj) : (w.alloc o).heap.size = w.heap.size + 1 := Array.size_push ..
theorem alloc_new (w : World) (o : Obj) : (w.alloc o).heap[w.heap.size]? = some o := by
  show (w.heap.push o)[w.heap.size]? = _
  rw [Array.getElem?_push, if_pos rfl]

/-- A new object with a block of its own. -/
theorem Rep.newOwn {N : Nat} {φ : Phi} {M : Mem} {w : World} (h : Rep N φ M w) (o : AObj) (ob : Obj) (p : Pl) (hb : p.b = w.heap.size)
    (ho : ObjRel N (updP φ M.next (some p)) (w.alloc ob) M.next o) :
    Rep N (updP φ M.next (some p)) (M.new o) (w.alloc ob) ∧ Ext φ M w (updP φ M.next (some p)) (M.new o) (w.alloc ob) := by
  have hf := (h.fresh M.next (Nat.le_refl _)).2
  have hle := updP_le (some p) hf
  have own : ∀ id q, isOwn ((M.new o).get id) → updP φ M.next (some p) id = some (some q) → (id = M.next ∧ q = p) ∨ (id ≠ M.next ∧ isOwn (M.get id) ∧ φ id = some (some q)) := by
    intro id q ho hq
    simp only [Mem.get_new] at ho
    by_cases e : id = M.next
    · subst e; left; simpa using hq.symm
    · right
      rw [if_neg e] at ho
      exact ⟨e, ho, by simpa [updP, e] using hq⟩
  have lt : ∀ id q, isOwn (M.get id) → φ id = some (some q) → q.b < w.heap.size := by
    intro id q ho hq
    have := h.objs id
    cases hg : M.get id with
    | dead => rw [hg] at ho; exact ho.elim
    | ro => rw [hg] at ho; exact ho.elim
    | own e rs cells => rw [hg] at this; obtain ⟨p', hp', _, _, h2, _⟩ := this; rw [hq] at hp'; cases hp'; exact h2.lt
    | vec e n cols => rw [hg] at this; obtain ⟨_, p', hp', _, _, h2, _⟩ := this; rw [hq] at hp'; cases hp'; exact h2.lt
  refine ⟨⟨fun id => ?_, fun id id' q q' ho1 ho' hq hq' e => ?_, fun id q ho1 hq => ?_, fun id hid => ?_, ?_⟩, ⟨hle, fun _ h => updP_lt _ h, by simp, rfl, rfl, rfl, rfl, ?_, fun b hb' _ => push_same w ob b hb', fun id q ho1 hq hlt => ?_⟩⟩
  · simp only [Mem.get_new]
    split
    · rename_i e; subst e; exact ho
    · refine (h.objs id).step hle (fun b hb' => push_same w ob b (Nat.lt_of_lt_of_le hb' h.size)) (fun ho1 q hq => push_same w ob _ (lt id q ho1 hq))
  · rcases own id q ho1 hq with ⟨rfl, rfl⟩ | ⟨h1, h2, h3⟩ <;> rcases own id' q' ho' hq' with ⟨rfl, rfl⟩ | ⟨h4, h5, h6⟩
    · rfl
    · have := lt id' q' h5 h6; omega
    · have := lt id q h2 h3; omega
    · exact h.sep id id' q q' h2 h5 h3 h6 e
  · rcases own id q ho1 hq with ⟨rfl, rfl⟩ | ⟨h1, h2, h3⟩
    · rw [hb]; exact h.size
    · exact h.high id q h2 h3
  · simp only [Mem.next_new] at hid
    have hne : id ≠ M.next := by omega
    simp only [Mem.get_new, if_neg hne]
    obtain ⟨h1, h2⟩ := h.fresh id (by omega)
    exact ⟨h1, by simp [updP, hne, h2]⟩
  · have := h.size; rw [alloc_size]; omega
  · rw [alloc_size]; omega
  · rcases own id q ho1 hq with ⟨rfl, rfl⟩ | ⟨h1, h2, h3⟩
    · omega
    · exact ⟨id, q, h2, h3, rfl, fun h => h⟩

/-- What comes of an operation. -/
def Good (N : Nat) (φ : Phi) (M : Mem) (w : World) (Q : AV × Mem → Prop) (v : Value) (w' : World) : Prop :=
  ∃ φ' x M', Q (x, M') ∧ AVRel φ' x v ∧ Rep N φ' M' w' ∧ Ext φ M w φ' M' w'
theorem Good.here {N : Nat} {φ : Phi} {M : Mem} {w : World} {Q : AV × Mem → Prop} {v : Value} {x : AV} (hr : Rep N φ M w) (hq : Q (x, M)) (hv : AVRel φ x v) : Good N φ M w Q v w :=
  ⟨φ, x, M, hq, hv, hr, .refl _ _ _⟩

/-! ## Loads -/
theorem colGet_ok {N : Nat} {φ : Phi} {M : Mem} {w : World} (hr : Rep N φ M w) {r : Nat} {col : Col} {z : Value} (hz : ColRel N w col r z) {Q : AV × Mem → Prop} {Qp : AV → Mem → Prop}
    (h : (colGet M r col).holds Q Qp) : Good N φ M w Q z w := by
  cases hz with
  | ci k l i => exact .here hr h (.i _ _)
  | cs l i => exact .here hr h (.s _)
  | cb l i => exact .here hr h (.b _)
  | cf k l i => exact .here hr h (.v _)
  | cl hh sub i A zf hlen hle hA h0 hb hz hc =>
    have key := hr.newRo (hh.getD r (true, 0, 0)).1 (hh.getD r (true, 0, 0)).2.1 (sub r) (A.map fun a => ⟨a.block, a.off, (sub r).length, (hh.getD r (true, 0, 0)).2.2, a.spot⟩) (by
      refine ⟨hlen, _, updP_self .., by rw [hA]; cases A <;> rfl, fun e => h0 (by simpa using e), fun p hp => ?_⟩
      cases A with
      | none => cases hp
      | some a =>
        cases hp
        refine ⟨rfl, hb a rfl, fun j hj c col hcol => ⟨zf j c, ?_, hc j hj c col hcol⟩⟩
        have := hz a rfl j hj c col hcol
        rw [← (hb a rfl (Nat.lt_of_le_of_lt (Nat.zero_le _) hj)).2] at this
        exact this)
    refine ⟨_, _, _, h, ?_, key.1, key.2⟩
    have e : A = (A.map fun a => (⟨a.block, a.off, (sub r).length, (hh.getD r (true, 0, 0)).2.2, a.spot⟩ : Pl)).map fun p => p.at 0 0 := by
      cases A with
      | none => rfl
      | some a => cases a; simp [Pl.at]
    generalize hh.getD r (true, 0, 0) = hd at *
    have := AVRel.sl (φ := updP φ M.next (A.map fun a => ⟨a.block, a.off, (sub r).length, hd.2.2, a.spot⟩)) M.next 0 hd.2.1 (some hd.2.2) _ hd.2.2 (updP_self ..) (fun h => h0 (by simpa using h)) (fun c h => by cases h; rfl) hle (fun p h => by cases A <;> cases h; simp) (fun p h hn => by
      cases A with
      | none => cases h
      | some a => cases h; exact (hb a rfl hn).2)
    rw [← e] at this
    exact this

theorem loadCell_ok {N : Nat} {φ : Phi} {M : Mem} {w : World} (hr : Rep N φ M w) {id r c : Nat} {p : Pl} (hp : φ id = some (some p)) {Q : AV × Mem → Prop} {Qp : AV → Mem → Prop}
    (h : (loadCell M id r c).holds Q Qp) : ∃ z, w.cell? (p.at r c) = some z ∧ Good N φ M w Q z w := by
  have ho := hr.objs id
  unfold loadCell at h
  cases hg : M.get id with
  | dead => rw [hg] at h; exact h.elim
  | ro nil n cols =>
    rw [hg] at h ho
    obtain ⟨_, x, hx, _, _, hc⟩ := ho
    rw [hp] at hx; cases hx
    obtain ⟨_, _, h3⟩ := hc p rfl
    obtain ⟨h1, _⟩ := h
    cases hb : Nat.blt r n with
    | false => rename_i h2; exact (h2 hb).elim
    | true =>
      obtain ⟨col, hcol, hh⟩ := onO_ok (h1 hb)
      rw [nth?_eq] at hcol
      obtain ⟨z, hz, hrel⟩ := h3 r (Nat.le_of_ble_eq_true hb) c col hcol
      exact ⟨z, hz, colGet_ok hr hrel hh⟩
  | own elem rs cells =>
    rw [hg] at h ho
    obtain ⟨q, hq, h0, h1, h2, h3, h4⟩ := ho
    rw [hp] at hq; cases hq
    simp only [ownGet] at h
    rw [T.holds_bind] at h
    obtain ⟨x, hx, hq⟩ := sel_ok h
    obtain ⟨z, hz, hrel⟩ := h4 _ _ hx
    refine ⟨z, ?_, .here hr hq hrel⟩
    simpa [Pl.at, h0, h1] using hz
  | vec elem n cols =>
    rw [hg] at h ho
    obtain ⟨_, q, hq, h0, h1, h2, h3, h4⟩ := ho
    rw [hp] at hq; cases hq
    obtain ⟨h1', h2'⟩ := h
    cases hb : Nat.blt r n with
    | false => exact (h2' hb).elim
    | true =>
      obtain ⟨col, hcol, hh⟩ := onO_ok (h1' hb)
      rw [nth?_eq] at hcol
      obtain ⟨z, hz, hrel⟩ := h4 r (Nat.le_of_ble_eq_true hb) c col hcol
      exact ⟨z, hz, colGet_ok hr hrel hh⟩
end Go.Eng
