/- An evaluator of the code of the model, and lemmas of its proof of soundness: what it tells of a call, the call does; no condition but those that each lemma names. -/
import Derived.Test.YtiokhipgpfeoeaaEng1
import Derived.Below
import Derived.WalkKit
set_option linter.all false
set_option linter.deprecated false
set_option autoImplicit false
namespace Go.Eng
open Go Go.RowKit

/-! ## Trees -/
theorem T.holds_ret {α : Type} (a : α) (Q : α → Prop) (Qp : AV → Mem → Prop) : (T.ret a).holds Q Qp = Q a := rfl
theorem T.holds_br {α : Type} (b : Bool) (t e : T α) (Q : α → Prop) (Qp : AV → Mem → Prop) : (T.br b t e).holds Q Qp = ((b = true → t.holds Q Qp) ∧ (b = false → e.holds Q Qp)) := rfl
theorem T.holds_fail {α : Type} (Q : α → Prop) (Qp : AV → Mem → Prop) : (T.fail : T α).holds Q Qp = False := rfl
theorem T.holds_pan {α : Type} (x : AV) (M : Mem) (Q : α → Prop) (Qp : AV → Mem → Prop) : (T.pan x M : T α).holds Q Qp = Qp x M := rfl
theorem T.holds_bind {α β : Type} (x : T α) (f : α → T β) (Q : β → Prop) (Qp : AV → Mem → Prop) : (x.bind f).holds Q Qp = x.holds (fun a => (f a).holds Q Qp) Qp := by
  induction x with
  | ret a => rfl
  | br b t e iht ihe =>
    show ((b = true → (t.bind f).holds Q Qp) ∧ (b = false → (e.bind f).holds Q Qp)) = _
    rw [iht, ihe]; rfl
  | pan x M => rfl
  | ck b t ih =>
    show (b = true ∧ (t.bind f).holds Q Qp) = _
    rw [ih]; rfl
  | fail => rfl
theorem T.holds_mono {α : Type} {x : T α} {Q Q' : α → Prop} {Qp Qp' : AV → Mem → Prop} (h : x.holds Q Qp) (hq : ∀ a, Q a → Q' a) (hp : ∀ a M, Qp a M → Qp' a M) : x.holds Q' Qp' := by
  induction x with
  | ret a => exact hq _ h
  | br b t e iht ihe => exact ⟨fun hb => iht (h.1 hb), fun hb => ihe (h.2 hb)⟩
  | pan x M => exact hp _ _ h
  | ck b t ih => exact ⟨h.1, ih h.2⟩
  | fail => exact h
theorem T.holds_run {α : Type} {x : T α} {r : α ⊕ (AV × Mem)} (h : x.run = some r) : x.holds (fun a => r = .inl a) (fun a M => r = .inr (a, M)) := by
  induction x with
  | ret a => exact (Option.some.inj h).symm
  | br b t e iht ihe =>
    refine ⟨fun hb => iht ?_, fun hb => ihe ?_⟩ <;> subst hb <;> exact h
  | pan x M => exact (Option.some.inj h).symm
  | ck b t ih =>
    cases b with
    | true => exact ⟨rfl, ih h⟩
    | false => cases h
  | fail => cases h

/-! ## Places -/
structure Pl where
  b : Nat
  o : Nat
  rs : Nat
  k : Nat
  spot : Option Nat := none
abbrev Phi := Nat → Option (Option Pl)
def Pl.at (p : Pl) (r c : Nat) : Addr := ⟨p.b, p.o + (r * p.rs + c), p.spot⟩

mutual
inductive AVRel (φ : Phi) : AV → Value → Prop
  | i (k : IntKind) (n : Int) : AVRel φ (.i k n) (.int k n)
  | b (x : Bool) : AVRel φ (.b x) (.bool x)
  | s (x : ByteArray) : AVRel φ (.s x) (.string x)
  | v (x : Value) : AVRel φ (.v x) x
  | ptr (id r c : Nat) (p : Pl) (h : φ id = some (some p)) (hs : p.spot = none) : AVRel φ (.ptr id r c) (.pointer (some (p.at r c)))
  | sl (id r n : Nat) (cap : Option Nat) (x : Option Pl) (cc : Nat) (h : φ id = some x) (h0 : x = none → n = 0) (hc : ∀ c, cap = some c → cc = c) (hle : n ≤ cc) (hk : ∀ p, x = some p → cc + r ≤ p.k) (hs : ∀ p, x = some p → 0 < n → p.spot = none) :
      AVRel φ (.sl id r n cap) (.slice (x.map fun p => p.at r 0) n cc)
  | e (A : Addr) (cc : Nat) : AVRel φ .e (.slice (some A) 0 cc)
  | mp (id : Nat) (p : Pl) (h : φ id = some (some p)) : AVRel φ (.mp id) (.map (some p.b))
  | fn (f : Fn) (l : List AV) (a : Array Value) (h : AVsRel φ l a.toList) : AVRel φ (.fn f l) (.func f #[] a)
  | ifc (t : TypeId) (x : AV) (y : Value) (h : AVRel φ x y) : AVRel φ (.ifc t x) (.iface t y)
  | agg (l : List AV) (a : Array Value) (h : AVsRel φ l a.toList) : AVRel φ (.agg l) (.agg a)
  | tup (l : List AV) (a : Array Value) (h : AVsRel φ l a.toList) : AVRel φ (.tup l) (.tuple a)
  | top (x : Value) : AVRel φ .top x
inductive AVsRel (φ : Phi) : List AV → List Value → Prop
  | nil : AVsRel φ [] []
  | cons {x : AV} {y : Value} {l : List AV} {m : List Value} (h : AVRel φ x y) (t : AVsRel φ l m) : AVsRel φ (x :: l) (y :: m)
end

/-- What has a place keeps it. -/
def PhiLe (φ φ' : Phi) : Prop := ∀ id x, φ id = some x → φ' id = some x
theorem PhiLe.refl (φ : Phi) : PhiLe φ φ := fun _ _ h => h
theorem PhiLe.trans {φ φ' φ'' : Phi} (h : PhiLe φ φ') (h' : PhiLe φ' φ'') : PhiLe φ φ'' := fun id x e => h' id x (h id x e)

theorem AVRel.mono {φ φ' : Phi} (hp : PhiLe φ φ') {x : AV} {y : Value} (h : AVRel φ x y) : AVRel φ' x y := by
  refine AVRel.rec (motive_1 := fun x y _ => AVRel φ' x y) (motive_2 := fun l m _ => AVsRel φ' l m) ?_ ?_ ?_ ?_ ?_ ?_ ?_ ?_ ?_ ?_ ?_ ?_ ?_ ?_ ?_ h
  · exact fun k n => .i k n
  · exact fun x => .b x
  · exact fun x => .s x
  · exact fun x => .v x
  · exact fun id r c p h hs => .ptr id r c p (hp _ _ h) hs
  · exact fun id r n cap x cc h h0 hc hle hk hs => .sl id r n cap x cc (hp _ _ h) h0 hc hle hk hs
  · exact fun A cc => .e A cc
  · exact fun id p h => .mp id p (hp _ _ h)
  · exact fun f l a _ h => .fn f l a h
  · exact fun t x y _ h => .ifc t x y h
  · exact fun l a _ h => .agg l a h
  · exact fun l a _ h => .tup l a h
  · exact fun x => .top x
  · exact .nil
  · exact fun _ _ h t => .cons h t
theorem AVsRel.mono {φ φ' : Phi} (hp : PhiLe φ φ') {l : List AV} {m : List Value} (h : AVsRel φ l m) : AVsRel φ' l m := by
  induction l generalizing m with
  | nil => cases h; exact .nil
  | cons x l ih => cases h with | cons h t => exact .cons (h.mono hp) (ih t)

theorem AVsRel.length {φ : Phi} {l : List AV} {m : List Value} (h : AVsRel φ l m) : l.length = m.length := by
  induction l generalizing m with
  | nil => cases h; rfl
  | cons x l ih => cases h with | cons h t => simp [ih t]
theorem AVsRel.get {φ : Phi} {l : List AV} {m : List Value} (h : AVsRel φ l m) (i : Nat) (x : AV) (hx : l[i]? = some x) : ∃ y, m[i]? = some y ∧ AVRel φ x y := by
  induction l generalizing m i with
  | nil => simp at hx
  | cons a l ih => cases h with
    | cons h t =>
      cases i with
      | zero => simp at hx; subst hx; exact ⟨_, rfl, h⟩
      | succ i => simp at hx; simpa using ih t i hx
theorem AVsRel.append {φ : Phi} {l l' : List AV} {m m' : List Value} (h : AVsRel φ l m) (h' : AVsRel φ l' m') : AVsRel φ (l ++ l') (m ++ m') := by
  induction l generalizing m with
  | nil => cases h; exact h'
  | cons a l ih => cases h with | cons h t => exact .cons h (ih t)
theorem AVsRel.drop {φ : Phi} {l : List AV} {m : List Value} (h : AVsRel φ l m) (n : Nat) : AVsRel φ (l.drop n) (m.drop n) := by
  induction n generalizing l m with
  | zero => simpa using h
  | succ n ih => cases h with
    | nil => simpa using AVsRel.nil
    | cons h t => simpa using ih t
theorem AVsRel.take {φ : Phi} {l : List AV} {m : List Value} (h : AVsRel φ l m) (n : Nat) : AVsRel φ (l.take n) (m.take n) := by
  induction n generalizing l m with
  | zero => simpa using AVsRel.nil
  | succ n ih => cases h with
    | nil => simpa using AVsRel.nil
    | cons h t => simpa using AVsRel.cons h (ih t)
theorem AVsRel.map {α : Type} {φ : Phi} (l : List α) (f : α → AV) (g : α → Value) (h : ∀ x ∈ l, AVRel φ (f x) (g x)) : AVsRel φ (l.map f) (l.map g) := by
  induction l with
  | nil => exact .nil
  | cons x l ih => exact .cons (h x (by simp)) (ih fun y hy => h y (by simp [hy]))

theorem lift1_rel (φ : Phi) (x : Value) : AVRel φ (lift1 x) x := by
  cases x <;> first | exact .i _ _ | exact .b _ | exact .s _ | exact .v _
theorem lift_rel (φ : Phi) (x : Value) : AVRel φ (lift x) x := by
  cases x with
  | agg cs =>
    refine .agg _ _ ?_
    have := AVsRel.map (φ := φ) cs.toList lift1 id fun x _ => lift1_rel φ x
    simpa using this
  | _ => first | exact .i _ _ | exact .b _ | exact .s _ | exact .v _

/-! ## Memory -/
/-- What a column reads at a row, in blocks below N. -/
inductive ColRel (N : Nat) (w : World) : Col → Nat → Value → Prop
  | ci (k : IntKind) (l : List Int) (i : Nat) : ColRel N w (.ci k l) i (.int k (l.getD i 0))
  | cs (l : List ByteArray) (i : Nat) : ColRel N w (.cs l) i (.string (l.getD i ByteArray.empty))
  | cb (l : List Bool) (i : Nat) : ColRel N w (.cb l) i (.bool (l.getD i false))
  | cf (k : FloatKind) (l : List Nat) (i : Nat) : ColRel N w (.cf k l) i (.float k (l.getD i 0))
  | cl (h : List (Bool × Nat × Nat)) (sub : Nat → List Col) (i : Nat) (A : Option Addr) (z : Nat → Nat → Value)
      (hlen : ∀ (c : Nat) (col : Col), (sub i)[c]? = some col → col.len = (h.getD i (true, 0, 0)).2.1) (hle : (h.getD i (true, 0, 0)).2.1 ≤ (h.getD i (true, 0, 0)).2.2) (hA : (h.getD i (true, 0, 0)).1 = A.isNone) (h0 : A = none → (h.getD i (true, 0, 0)).2.1 = 0) (hb : ∀ a, A = some a → 0 < (h.getD i (true, 0, 0)).2.1 → a.block < N ∧ a.spot = none)
      (hz : ∀ a, A = some a → ∀ j, j < (h.getD i (true, 0, 0)).2.1 → ∀ c col, (sub i)[c]? = some col → w.cell? ⟨a.block, a.off + (j * (sub i).length + c), none⟩ = some (z j c))
      (hc : ∀ j, j < (h.getD i (true, 0, 0)).2.1 → ∀ c col, (sub i)[c]? = some col → ColRel N w col j (z j c)) :
      ColRel N w (.cl h sub) i (.slice A (h.getD i (true, 0, 0)).2.1 (h.getD i (true, 0, 0)).2.2)

/-- The blocks below N are as they were. -/
def SameBelow (N : Nat) (w w' : World) : Prop := ∀ b, b < N → w'.heap[b]? = w.heap[b]?
theorem SameBelow.cell {N : Nat} {w w' : World} (h : SameBelow N w w') {a : Addr} (ha : a.block < N) : w'.cell? a = w.cell? a := by
  simp only [World.cell?, h _ ha]
theorem ColRel.same {N : Nat} {w w' : World} (hs : SameBelow N w w') {col : Col} {i : Nat} {y : Value} (h : ColRel N w col i y) : ColRel N w' col i y := by
  induction h with
  | ci k l i => exact .ci k l i
  | cs l i => exact .cs l i
  | cb l i => exact .cb l i
  | cf k l i => exact .cf k l i
  | cl h sub i A z hlen hle hA h0 hb hz hc ih =>
    exact .cl h sub i A z hlen hle hA h0 hb (fun a ha j hj c col hcol => (hs.cell (a := ⟨a.block, _, none⟩) (hb a ha (Nat.lt_of_le_of_lt (Nat.zero_le _) hj)).1).trans (hz a ha j hj c col hcol)) ih

def OwnBlock (w : World) (b : Nat) (elem : TypeId) (n : Nat) : Prop := ∃ cur f, w.heap[b]? = some (.cells cur elem f) ∧ cur.size = n ∧ (f = (0, 0) ∨ n ≤ f.1)
def isOwn : AObj → Prop
  | .own .. => True
  | .vec .. => True
  | _ => False
def ObjRel (N : Nat) (φ : Phi) (w : World) (id : Nat) : AObj → Prop
  | .dead => True
  | .ro nil n cols => (∀ (c : Nat) (col : Col), cols[c]? = some col → col.len = n) ∧ ∃ x, φ id = some x ∧ nil = x.isNone ∧ (x = none → n = 0) ∧ ∀ p, x = some p → p.rs = cols.length ∧ (0 < n → p.b < N ∧ p.spot = none) ∧
      ∀ j, j < n → ∀ c col, cols[c]? = some col → ∃ z, w.cell? (p.at j c) = some z ∧ ColRel N w col j z
  | .own elem rs cells => ∃ p, φ id = some (some p) ∧ (p.o = 0 ∧ p.spot = none) ∧ p.rs = rs ∧ OwnBlock w p.b elem (p.k * rs) ∧ cells.length ≤ p.k * rs ∧
      ∀ j a, cells[j]? = some a → ∃ z, w.cell? ⟨p.b, j, none⟩ = some z ∧ AVRel φ a z
  | .vec elem n cols => (∀ (c : Nat) (col : Col), cols[c]? = some col → col.len = n) ∧ ∃ p, φ id = some (some p) ∧ (p.o = 0 ∧ p.spot = none) ∧ p.rs = cols.length ∧ OwnBlock w p.b elem (p.k * cols.length) ∧ n ≤ p.k ∧
      ∀ j, j < n → ∀ c col, cols[c]? = some col → ∃ z, w.cell? (p.at j c) = some z ∧ ColRel N w col j z

structure Rep (N : Nat) (φ : Phi) (M : Mem) (w : World) : Prop where
  objs : ∀ id, ObjRel N φ w id (M.get id)
  sep : ∀ id id' p p', isOwn (M.get id) → isOwn (M.get id') → φ id = some (some p) → φ id' = some (some p') → p.b = p'.b → id = id'
  high : ∀ id p, isOwn (M.get id) → φ id = some (some p) → N ≤ p.b
  fresh : ∀ id, M.next ≤ id → M.get id = .dead ∧ φ id = none
  size : N ≤ w.heap.size

/-- From one state to a later one. -/
structure Ext (φ : Phi) (M : Mem) (w : World) (φ' : Phi) (M' : Mem) (w' : World) : Prop where
  phi : PhiLe φ φ'
  phi0 : ∀ id, id < M.next → φ' id = φ id
  next : M.next ≤ M'.next
  lock : M'.lock = M.lock
  os : w'.os = w.os
  tape : w'.tape = w.tape
  output : w'.output = w.output
  size : w.heap.size ≤ w'.heap.size
  keep : ∀ b, b < w.heap.size → (∀ id p, M.lock ≤ id → isOwn (M.get id) → φ id = some (some p) → p.b ≠ b) → w'.heap[b]? = w.heap[b]?
  old : ∀ id p, isOwn (M'.get id) → φ' id = some (some p) → p.b < w.heap.size → ∃ id' p', isOwn (M.get id') ∧ φ id' = some (some p') ∧ p'.b = p.b ∧ (M.lock ≤ id → M.lock ≤ id')
theorem Ext.refl (φ : Phi) (M : Mem) (w : World) : Ext φ M w φ M w :=
  ⟨.refl _, fun _ _ => rfl, Nat.le_refl _, rfl, rfl, rfl, rfl, Nat.le_refl _, fun _ _ _ => rfl, fun id p h h' _ => ⟨id, p, h, h', rfl, fun h => h⟩⟩
theorem Ext.trans {φ φ' φ'' : Phi} {M M' M'' : Mem} {w w' w'' : World} (h : Ext φ M w φ' M' w') (h' : Ext φ' M' w' φ'' M'' w'') : Ext φ M w φ'' M'' w'' where
  phi := h.phi.trans h'.phi
  phi0 := fun id hid => (h'.phi0 id (Nat.lt_of_lt_of_le hid h.next)).trans (h.phi0 id hid)
  next := Nat.le_trans h.next h'.next
  lock := h'.lock.trans h.lock
  os := h'.os.trans h.os
  tape := h'.tape.trans h.tape
  output := h'.output.trans h.output
  size := Nat.le_trans h.size h'.size
  keep := fun b hb hno => by
    rw [h'.keep b (Nat.lt_of_lt_of_le hb h.size) ?_, h.keep b hb hno]
    intro id p hl ho hp hpb
    subst hpb
    obtain ⟨id', p', ho', hp', hb', hl'⟩ := h.old id p ho hp hb
    exact hno id' p' (hl' (h.lock ▸ hl)) ho' hp' hb'
  old := fun id p ho hp hb => by
    obtain ⟨id', p', ho', hp', hb', hl'⟩ := h'.old id p ho hp (Nat.lt_of_lt_of_le hb h.size)
    obtain ⟨id'', p'', ho'', hp'', hb'', hl''⟩ := h.old id' p' ho' hp' (hb' ▸ hb)
    exact ⟨id'', p'', ho'', hp'', hb''.trans hb', fun hl => hl'' (h.lock ▸ hl' (h.lock ▸ hl))⟩
theorem Ext.below {N : Nat} {φ φ' : Phi} {M M' : Mem} {w w' : World} (h : Ext φ M w φ' M' w') (hr : Rep N φ M w) : Below N w w' :=
  ⟨h.os, h.tape, h.output, h.size, fun b hb => h.keep b (Nat.lt_of_lt_of_le hb hr.size) fun id p _ ho hp hpb => by
    have := hr.high id p ho hp
    omega⟩
theorem Ext.draw (φ : Phi) (M : Mem) (w : World) : Ext φ M w φ M w.drew :=
  ⟨.refl _, fun _ _ => rfl, Nat.le_refl _, rfl, rfl, rfl, rfl, Nat.le_refl _, fun _ _ _ => rfl, fun id p h h' _ => ⟨id, p, h, h', rfl, fun h => h⟩⟩
end Go.Eng
