/- An evaluator of the code of the model, and lemmas of its proof of soundness: what it tells of a call, the call does; no condition but those that each lemma names. -/
import Derived.Calls
import Derived.Orders
import Derived.Laws.FloatArith
import Derived.Below
import Derived.WalkKit
import Derived.Laws.BytesArg
import Derived.Deep.AppendSrc
set_option linter.all false
set_option linter.deprecated false
set_option autoImplicit false
namespace Go.Eng
open Go

/-! ## Values and memory -/
inductive AV where
  | i (k : IntKind) (n : Int)
  | b (x : Bool)
  | s (x : ByteArray)
  | v (x : Value)
  | ptr (id r c : Nat)
  | sl (id r n : Nat) (cap : Option Nat)
  | e
  | mp (id : Nat)
  | fn (f : Fn) (caps : List AV)
  | ifc (t : TypeId) (x : AV)
  | agg (l : List AV)
  | tup (l : List AV)
  | top

/-- A column of a row of structs (or of plain values). -/
inductive Col where
  | ci (k : IntKind) (l : List Int)
  | cs (l : List ByteArray)
  | cb (l : List Bool)
  | cf (k : FloatKind) (l : List Nat)
  | cl (h : List (Bool × Nat × Nat)) (sub : Nat → List Col)

def Col.len : Col → Nat
  | .ci _ l => l.length
  | .cs l => l.length
  | .cb l => l.length
  | .cf _ l => l.length
  | .cl h _ => h.length

inductive AObj where
  | dead
  | ro (nil : Bool) (n : Nat) (cols : List Col)
  | own (elem : TypeId) (rs : Nat) (cells : List AV)
  | vec (elem : TypeId) (n : Nat) (cols : List Col)
  | map (es : List MapEntry) (clock : Nat)

structure Mem where
  next : Nat
  lock : Nat
  get : Nat → AObj

noncomputable def upd {α : Type} (f : Nat → α) (i : Nat) (x : α) : Nat → α := fun j => @Bool.rec (fun _ => α) (f j) x (Nat.beq j i)
noncomputable def Mem.set (M : Mem) (id : Nat) (o : AObj) : Mem := ⟨M.next, M.lock, upd M.get id o⟩
noncomputable def Mem.new (M : Mem) (o : AObj) : Mem := ⟨M.next + 1, M.lock, upd M.get M.next o⟩

/-! ## The tree of ways -/
inductive T (α : Type) where
  | ret (a : α)
  | br (b : Bool) (t e : T α)
  | pan (x : AV) (M : Mem)
  | ck (b : Bool) (t : T α)
  | fail
namespace T
noncomputable def bind {α β : Type} (x : T α) (f : α → T β) : T β :=
  @T.rec α (fun _ => T β) f (fun b _ _ t e => .br b t e) (fun x M => .pan x M) (fun b _ t => .ck b t) .fail x
def holds {α : Type} (x : T α) (Q : α → Prop) (Qp : AV → Mem → Prop) : Prop :=
  @T.rec α (fun _ => Prop) Q (fun b _ _ t e => (b = true → t) ∧ (b = false → e)) Qp (fun b _ t => b = true ∧ t) False x
noncomputable def run {α : Type} (x : T α) : Option (α ⊕ (AV × Mem)) :=
  @T.rec α (fun _ => Option (α ⊕ (AV × Mem))) (fun a => some (.inl a)) (fun b _ _ t e => @Bool.rec (fun _ => Option (α ⊕ (AV × Mem))) e t b) (fun x M => some (.inr (x, M))) (fun b _ t => @Bool.rec (fun _ => Option (α ⊕ (AV × Mem))) none t b) none x
end T
noncomputable def onO {α β : Type} (x : Option α) (f : α → T β) : T β := @Option.rec α (fun _ => T β) .fail f x
/-- A choice by a Bool, small for the kernel. -/
noncomputable def bif2 {α : Type} (b : Bool) (t e : α) : α := @Bool.rec (fun _ => α) e t b
noncomputable def onI {β : Type} (x : AV) (f_i : IntKind → Int → T β) : T β := @AV.casesOn (fun _ => T β) x f_i (fun _ => .fail) (fun _ => .fail) (fun _ => .fail) (fun _ _ _ => .fail) (fun _ _ _ _ => .fail) .fail (fun _ => .fail) (fun _ _ => .fail) (fun _ _ => .fail) (fun _ => .fail) (fun _ => .fail) .fail
noncomputable def onB {β : Type} (x : AV) (f_b : Bool → T β) : T β := @AV.casesOn (fun _ => T β) x (fun _ _ => .fail) f_b (fun _ => .fail) (fun _ => .fail) (fun _ _ _ => .fail) (fun _ _ _ _ => .fail) .fail (fun _ => .fail) (fun _ _ => .fail) (fun _ _ => .fail) (fun _ => .fail) (fun _ => .fail) .fail
noncomputable def onS {β : Type} (x : AV) (f_s : ByteArray → T β) : T β := @AV.casesOn (fun _ => T β) x (fun _ _ => .fail) (fun _ => .fail) f_s (fun _ => .fail) (fun _ _ _ => .fail) (fun _ _ _ _ => .fail) .fail (fun _ => .fail) (fun _ _ => .fail) (fun _ _ => .fail) (fun _ => .fail) (fun _ => .fail) .fail
noncomputable def onV {β : Type} (x : AV) (f_v : Value → T β) : T β := @AV.casesOn (fun _ => T β) x (fun _ _ => .fail) (fun _ => .fail) (fun _ => .fail) f_v (fun _ _ _ => .fail) (fun _ _ _ _ => .fail) .fail (fun _ => .fail) (fun _ _ => .fail) (fun _ _ => .fail) (fun _ => .fail) (fun _ => .fail) .fail
noncomputable def onPtr {β : Type} (x : AV) (f_ptr : Nat → Nat → Nat → T β) : T β := @AV.casesOn (fun _ => T β) x (fun _ _ => .fail) (fun _ => .fail) (fun _ => .fail) (fun _ => .fail) f_ptr (fun _ _ _ _ => .fail) .fail (fun _ => .fail) (fun _ _ => .fail) (fun _ _ => .fail) (fun _ => .fail) (fun _ => .fail) .fail
noncomputable def onSl {β : Type} (x : AV) (f_sl : Nat → Nat → Nat → Option Nat → T β) : T β := @AV.casesOn (fun _ => T β) x (fun _ _ => .fail) (fun _ => .fail) (fun _ => .fail) (fun _ => .fail) (fun _ _ _ => .fail) f_sl .fail (fun _ => .fail) (fun _ _ => .fail) (fun _ _ => .fail) (fun _ => .fail) (fun _ => .fail) .fail
noncomputable def onFn {β : Type} (x : AV) (f_fn : Fn → List AV → T β) : T β := @AV.casesOn (fun _ => T β) x (fun _ _ => .fail) (fun _ => .fail) (fun _ => .fail) (fun _ => .fail) (fun _ _ _ => .fail) (fun _ _ _ _ => .fail) .fail (fun _ => .fail) f_fn (fun _ _ => .fail) (fun _ => .fail) (fun _ => .fail) .fail
noncomputable def onAgg {β : Type} (x : AV) (f_agg : List AV → T β) : T β := @AV.casesOn (fun _ => T β) x (fun _ _ => .fail) (fun _ => .fail) (fun _ => .fail) (fun _ => .fail) (fun _ _ _ => .fail) (fun _ _ _ _ => .fail) .fail (fun _ => .fail) (fun _ _ => .fail) (fun _ _ => .fail) f_agg (fun _ => .fail) .fail
noncomputable def onTup {β : Type} (x : AV) (f_tup : List AV → T β) : T β := @AV.casesOn (fun _ => T β) x (fun _ _ => .fail) (fun _ => .fail) (fun _ => .fail) (fun _ => .fail) (fun _ _ _ => .fail) (fun _ _ _ _ => .fail) .fail (fun _ => .fail) (fun _ _ => .fail) (fun _ _ => .fail) (fun _ => .fail) f_tup .fail
def lenV : Value → T AV
  | .slice _ n _ => .ret (.i .i64 n)
  | _ => .fail

abbrev Tmps := Nat → AV
def AV.cells : AV → List AV
  | .agg l => l
  | x => [x]
def lift1 : Value → AV
  | .int k n => .i k n
  | .bool x => .b x
  | .string x => .s x
  | x => .v x
def lift : Value → AV
  | .agg cs => .agg (cs.toList.map lift1)
  | .int k n => .i k n
  | .bool x => .b x
  | .string x => .s x
  | x => .v x
def evA (st : Tmps) : Operand → AV
  | .tmp t => st t
  | .const v => lift v
  | .global g => .v (.pointer (some ⟨g, 0, none⟩))
  | .func f => .fn (.func f) []

/-! ## Types -/
/-- The kind of a cell of a row. -/
inductive CK where
  | int (k : IntKind) | str | bool | flt | ptr | mp | fnc | other
inductive Und where
  | sl (elem : TypeId) | arr (n : Nat) (elem : TypeId) | st (fs : List (Nat × TypeId × Nat)) | str | leaf | ifc | bad
structure TI where
  u : Und
  size : Nat
  bytes : Nat
  zero : List AV
  kind : CK
  cmp : Bool
  kinds : List CK
abbrev TT := Nat → TI
/-- An aggregate, a leaf; a type that isn't listed. -/
noncomputable def onK {β : Type} (u : Und) (a l : T β) : T β := @Und.casesOn (fun _ => T β) u (fun _ => l) (fun _ _ => a) (fun _ => a) l l l .fail
/-- A type of values that isn't an interface. -/
noncomputable def onC {β : Type} (u : Und) (l : T β) : T β := @Und.casesOn (fun _ => T β) u (fun _ => l) (fun _ _ => l) (fun _ => l) l l .fail .fail

/-! ## Operations -/
def pureOf {α : Type} (P : Program) : Sem α → Option α
  | .pure a => some a
  | .program k => pureOf P (k P)
  | .mark _ k => pureOf P k
  | _ => none
noncomputable def sel {α : Type} (l : List α) : Nat → T α :=
  @List.rec α (fun _ => Nat → T α) (fun _ => .fail) (fun x _ ih i => @Nat.rec (fun _ => T α) (.ret x) (fun i _ => ih i) i) l
noncomputable def nth? {α : Type} (l : List α) : Nat → Option α :=
  @List.rec α (fun _ => Nat → Option α) (fun _ => none) (fun x _ ih i => @Nat.rec (fun _ => Option α) (some x) (fun i _ => ih i) i) l

noncomputable def colGet (M : Mem) (r : Nat) (col : Col) : T (AV × Mem) :=
  @Col.casesOn (fun _ => T (AV × Mem)) col
    (fun k l => .ret (.i k (l.getD r 0), M))
    (fun l => .ret (.s (l.getD r ByteArray.empty), M))
    (fun l => .ret (.b (l.getD r false), M))
    (fun k l => .ret (.v (.float k (l.getD r 0)), M))
    (fun h sub => .ret (.sl M.next 0 (h.getD r (true, 0, 0)).2.1 (some (h.getD r (true, 0, 0)).2.2), M.new (.ro (h.getD r (true, 0, 0)).1 (h.getD r (true, 0, 0)).2.1 (sub r))))
noncomputable def colsGet (M : Mem) (cols : List Col) (n r c : Nat) : T (AV × Mem) := .br (Nat.blt r n) (onO (nth? cols c) (colGet M r)) .fail
noncomputable def ownGet (M : Mem) (rs r c : Nat) (cells : List AV) : T (AV × Mem) := (sel cells (r * rs + c)).bind fun x => .ret (x, M)
noncomputable def loadCell (M : Mem) (id r c : Nat) : T (AV × Mem) :=
  @AObj.casesOn (fun _ => T (AV × Mem)) (M.get id) .fail (fun _ n cols => colsGet M cols n r c) (fun _ rs cells => ownGet M rs r c cells) (fun _ n cols => colsGet M cols n r c) (fun _ _ => .fail)
noncomputable def loadCells (id r : Nat) (n : Nat) : Mem → Nat → T (List AV × Mem) :=
  @Nat.rec (fun _ => Mem → Nat → T (List AV × Mem)) (fun M _ => .ret ([], M))
    (fun _ ih M c => (loadCell M id r c).bind fun x => (ih x.2 (c + 1)).bind fun y => .ret (x.1 :: y.1, y.2)) n
noncomputable def evLoad1 (ti : TI) (M : Mem) (id r c : Nat) : T (AV × Mem) :=
  onK ti.u ((loadCells id r ti.size M c).bind fun x => .ret (.agg x.1, x.2)) (loadCell M id r c)
noncomputable def evLoad (ti : TI) (M : Mem) (a : AV) : T (AV × Mem) := onPtr a (evLoad1 ti M)

def leafV : Value → Bool
  | .agg _ => false
  | .tuple _ => false
  | _ => true
noncomputable def leafA (x : AV) : Bool :=
  @AV.casesOn (fun _ => Bool) x (fun _ _ => true) (fun _ => true) (fun _ => true) leafV (fun _ _ _ => true) (fun _ _ _ _ => true) true (fun _ => true) (fun _ _ => true) (fun _ _ => true) (fun _ => false) (fun _ => false) false
noncomputable def allLeaf (l : List AV) : Bool := @List.rec AV (fun _ => Bool) true (fun x _ ih => @Bool.rec (fun _ => Bool) false ih (leafA x)) l
/-- A column with another value in a row. -/
def colSet (r : Nat) : Col → AV → Option Col
  | .ci k l, .i k' n => if k = k' then some (.ci k (l.set r n)) else none
  | .cs l, .s x => some (.cs (l.set r x))
  | .cb l, .b x => some (.cb (l.set r x))
  | .cf k l, .v (.float k' n) => if k = k' then some (.cf k (l.set r n)) else none
  | _, _ => none
noncomputable def storeVec (M : Mem) (id r c : Nat) (x : AV) (elem : TypeId) (n : Nat) (cols : List Col) : T Mem :=
  .ck (Nat.ble M.lock id) (.br (Nat.blt r n) (onO (nth? cols c) fun col => onO (colSet r col x) fun col' => .ret (M.set id (.vec elem n (cols.set c col')))) .fail)
noncomputable def storeCell (M : Mem) (id r c : Nat) (x : AV) : T Mem :=
  @AObj.casesOn (fun _ => T Mem) (M.get id) .fail (fun _ _ _ => .fail)
    (fun elem rs cells => .ck (Nat.ble M.lock id) (.ck (leafA x && Nat.blt (r * rs + c) cells.length) (.ret (M.set id (.own elem rs (cells.set (r * rs + c) x))))))
    (fun elem n cols => storeVec M id r c x elem n cols) (fun _ _ => .fail)
noncomputable def storeCells (id r : Nat) (l : List AV) : Mem → Nat → T Mem :=
  @List.rec AV (fun _ => Mem → Nat → T Mem) (fun M _ => .ret M) (fun x _ ih M c => (storeCell M id r c x).bind fun M => ih M (c + 1)) l
noncomputable def storeAll (n : Nat) (M : Mem) (id r c : Nat) (l : List AV) : T (AV × Mem) := .br (Nat.beq l.length n) ((storeCells id r l M c).bind fun M => .ret (.v undef, M)) .fail
noncomputable def evStore (ti : TI) (M : Mem) (a x : AV) : T (AV × Mem) :=
  onPtr a fun id r c => onK ti.u (storeAll ti.size M id r c x.cells) (storeAll ti.size M id r c x.cells)

noncomputable def newOwn (M : Mem) (elem : TypeId) (rs : Nat) (cells : List AV) : T (AV × Mem) :=
  .br (allLeaf cells && Nat.beq cells.length rs) (.ret (.ptr M.next 0 0, M.new (.own elem rs cells))) .fail

/-- The cells of a row of an object. -/
noncomputable def onRs {β : Type} (o : AObj) (f : Nat → T β) : T β := @AObj.casesOn (fun _ => T β) o .fail (fun _ _ cols => f cols.length) (fun _ rs _ => f rs) (fun _ _ cols => f cols.length) (fun _ _ => .fail)
noncomputable def rsIs (M : Mem) (id n : Nat) (t : T (AV × Mem)) : T (AV × Mem) := onRs (M.get id) fun k => .br (Nat.beq k n) t .fail
noncomputable def idxSl (M : Mem) (i : Int) (id r n : Nat) : T (AV × Mem) :=
  .br (decide (0 ≤ i)) (.br (decide (i < (n : Int))) (.ret (.ptr id (r + i.toNat) 0, M)) .fail) .fail
noncomputable def idxArr (M : Mem) (i : Int) (len es : Nat) (id r c : Nat) : T (AV × Mem) :=
  .br (decide (0 ≤ i)) (.br (decide (i < (len : Int))) (.ret (.ptr id r (c + i.toNat * es), M)) .fail) .fail
noncomputable def evIndexAddr (tt : TT) (u : Und) (M : Mem) (x ix : AV) : T (AV × Mem) :=
  onI ix fun _ i => @Und.casesOn (fun _ => T (AV × Mem)) u
    (fun el => onSl x fun id r n _ => onK (tt el).u (rsIs M id (tt el).size (idxSl M i id r n)) (rsIs M id (tt el).size (idxSl M i id r n)))
    (fun len el => onPtr x fun id r c => onK (tt el).u (idxArr M i len (tt el).size id r c) (idxArr M i len (tt el).size id r c))
    (fun _ => .fail) .fail .fail .fail .fail

def byteAt (s : ByteArray) (i : Nat) : Int := ((s.data.toList.getD i 0).toNat : Int)
noncomputable def evIndex (tt : TT) (u : Und) (M : Mem) (x ix : AV) : T (AV × Mem) :=
  onI ix fun _ i => @Und.casesOn (fun _ => T (AV × Mem)) u
    (fun _ => .fail)
    (fun len el => onAgg x fun l => .br (decide (0 ≤ i)) (.br (decide (i < (len : Int))) (onK (tt el).u .fail ((sel l (i.toNat * (tt el).size)).bind fun y => .ret (y, M))) .fail) .fail)
    (fun _ => .fail)
    (onS x fun s => .br (decide (0 ≤ i)) (.br (decide (i < (s.size : Int))) (.ret (.i .u8 (byteAt s i.toNat), M)) .fail) .fail)
    .fail .fail .fail

noncomputable def onSt {β : Type} (u : Und) (f : List (Nat × TypeId × Nat) → T β) : T β := @Und.casesOn (fun _ => T β) u (fun _ => .fail) (fun _ _ => .fail) f .fail .fail .fail .fail
noncomputable def evFieldAddr (u : Und) (M : Mem) (x : AV) (f : Nat) : T (AV × Mem) :=
  onSt u fun fs => onPtr x fun id r c => onO (nth? fs f) fun fd => .br (Nat.beq fd.2.2 0) .fail (.ret (.ptr id r (c + fd.1), M))
noncomputable def evField (tt : TT) (u : Und) (M : Mem) (x : AV) (f : Nat) : T (AV × Mem) :=
  onSt u fun fs => onAgg x fun l => onO (nth? fs f) fun fd =>
    onK (tt fd.2.1).u (.ret (.agg ((l.drop fd.1).take fd.2.2), M)) ((sel l fd.1).bind fun y => .ret (y, M))

noncomputable def wrapS (m h n : Int) : Int := @Bool.rec (fun _ => Int) (n % m) (n % m - m) (decide (h ≤ n % m))
noncomputable def wr (k : IntKind) (n : Int) : Int :=
  @IntKind.casesOn (fun _ => Int) k (wrapS 256 128 n) (wrapS 65536 32768 n) (wrapS 4294967296 2147483648 n) (wrapS 18446744073709551616 9223372036854775808 n)
    (n % 256) (n % 65536) (n % 4294967296) (n % 18446744073709551616)
def bitsOf (k : IntKind) : Nat := k.bits
noncomputable def iRet (k : IntKind) (n : Int) : T AV := .ret (.i k (wr k n))
noncomputable def bAdd (k : IntKind) (a b : Int) : T AV := iRet k (a + b)
noncomputable def bSub (k : IntKind) (a b : Int) : T AV := iRet k (a - b)
noncomputable def bMul (k : IntKind) (a b : Int) : T AV := iRet k (a * b)
noncomputable def bQuo (k : IntKind) (a b : Int) : T AV := .br (b == 0) .fail (iRet k (a.tdiv b))
noncomputable def bRem (k : IntKind) (a b : Int) : T AV := .br (b == 0) .fail (.ret (.i k (a.tmod b)))
noncomputable def bAnd (k : IntKind) (a b : Int) : T AV := iRet k (BitVec.ofInt k.bits a &&& BitVec.ofInt k.bits b).toNat
noncomputable def bOr (k : IntKind) (a b : Int) : T AV := iRet k (BitVec.ofInt k.bits a ||| BitVec.ofInt k.bits b).toNat
noncomputable def bXor (k : IntKind) (a b : Int) : T AV := iRet k (BitVec.ofInt k.bits a ^^^ BitVec.ofInt k.bits b).toNat
noncomputable def bShl (k : IntKind) (a b : Int) : T AV := .br (decide (b < 0)) .fail (iRet k (a * 2 ^ (min b.toNat k.bits)))
noncomputable def bShr (k : IntKind) (a b : Int) : T AV := .br (decide (b < 0)) .fail (.ret (.i k (a.fdiv (2 ^ (min b.toNat k.bits)))))
noncomputable def bAndNot (k : IntKind) (a b : Int) : T AV := iRet k (BitVec.ofInt k.bits a &&& ~~~BitVec.ofInt k.bits b).toNat
def bEql (_ : IntKind) (a b : Int) : T AV := .ret (.b (a == b))
def bNeq (_ : IntKind) (a b : Int) : T AV := .ret (.b (a != b))
def bLss (_ : IntKind) (a b : Int) : T AV := .ret (.b (decide (a < b)))
def bLeq (_ : IntKind) (a b : Int) : T AV := .ret (.b (decide (a ≤ b)))
def bGtr (_ : IntKind) (a b : Int) : T AV := .ret (.b (decide (a > b)))
def bGeq (_ : IntKind) (a b : Int) : T AV := .ret (.b (decide (a ≥ b)))
noncomputable def binI (op : BinOp) (k : IntKind) (a b : Int) : T AV :=
  (@BinOp.casesOn (fun _ => IntKind → Int → Int → T AV) op bAdd bSub bMul bQuo bRem bAnd bOr bXor bShl bShr bAndNot bEql bNeq bLss bLeq bGtr bGeq) k a b
def sFail (_ _ : ByteArray) : T AV := .fail
def sAdd (a b : ByteArray) : T AV := .br (Nat.ble (a.size + b.size) 9223372036854775807) (.ret (.s (a ++ b))) .fail
def sEql (a b : ByteArray) : T AV := .ret (.b (a.toList == b.toList))
def sNeq (a b : ByteArray) : T AV := .ret (.b (!(a.toList == b.toList)))
def sLss (a b : ByteArray) : T AV := .ret (.b (Op.bytesLess a.toList b.toList))
def sLeq (a b : ByteArray) : T AV := .ret (.b (Op.bytesLess a.toList b.toList || a.toList == b.toList))
def sGtr (a b : ByteArray) : T AV := .ret (.b (!(Op.bytesLess a.toList b.toList || a.toList == b.toList)))
def sGeq (a b : ByteArray) : T AV := .ret (.b (!(Op.bytesLess a.toList b.toList)))
noncomputable def binS (op : BinOp) (a b : ByteArray) : T AV :=
  (@BinOp.casesOn (fun _ => ByteArray → ByteArray → T AV) op sAdd sFail sFail sFail sFail sFail sFail sFail sFail sFail sFail sEql sNeq sLss sLeq sGtr sGeq) a b
noncomputable def binB1 (op : BinOp) (a b : Bool) : T AV :=
  @BinOp.casesOn (fun _ => T AV) op .fail .fail .fail .fail .fail .fail .fail .fail .fail .fail .fail (.ret (.b (a == b))) (.ret (.b (!(a == b)))) .fail .fail .fail .fail
noncomputable def binB (ck : CK) (op : BinOp) (a b : Bool) : T AV := @CK.casesOn (fun _ => T AV) ck (fun _ => .fail) .fail (binB1 op a b) .fail .fail .fail .fail .fail
noncomputable def binW (P : Program) (op : BinOp) (t : TypeId) (x y : Operand) (a b : Value) : T AV :=
  onO (pureOf P (do eqGuard op t x y a b; binOp op t a b)) fun v => .ret (lift1 v)
def isAr : BinOp → Bool
  | .add | .sub | .mul | .quo => true
  | _ => false
/-- Floats: what is no NaN. -/
noncomputable def binF (op : BinOp) (k : FloatKind) (x y : Nat) : T AV := .br (floatBits op k x y).isSome (.ret (.v (.float k ((floatBits op k x y).getD 0)))) .fail
noncomputable def binV (P : Program) (op : BinOp) (t : TypeId) (x y : Operand) (a b : Value) : T AV :=
  match a, b with
  | .float k n, .float k' m => bif2 (isAr op) (.br (decide (k = k')) (binF op k n m) .fail) (binW P op t x y (.float k n) (.float k' m))
  | a, b => binW P op t x y a b
def isSh : BinOp → Bool
  | .shl | .shr => true
  | _ => false
noncomputable def binA (P : Program) (ck : CK) (op : BinOp) (t : TypeId) (x y : Operand) (a b : AV) : T AV :=
  @AV.casesOn (fun _ => T AV) a (fun k a => onI b fun k' b => bif2 (isSh op) (binI op k a b) (.br (decide (k = k')) (binI op k a b) .fail)) (fun a => onB b (binB ck op a)) (fun a => onS b (binS op a)) (fun a => onV b (binV P op t x y a))
    (fun _ _ _ => .fail) (fun _ _ _ _ => .fail) .fail (fun _ => .fail) (fun _ _ => .fail) (fun _ _ => .fail) (fun _ => .fail) (fun _ => .fail) .fail
noncomputable def unA (P : Program) (op : UnOp) (a : AV) : T AV :=
  @AV.casesOn (fun _ => T AV) a
    (fun k n => @UnOp.casesOn (fun _ => T AV) op (iRet k (0 - n)) (iRet k (BitVec.ofInt k.bits (bif k.signed then -1 else k.max) ^^^ BitVec.ofInt k.bits n).toNat) .fail .fail)
    (fun b => @UnOp.casesOn (fun _ => T AV) op .fail .fail (.ret (.b (!b))) .fail)
    (fun _ => .fail) (fun a => onO (pureOf P (Op.unary op a)) fun v => .ret (lift1 v))
    (fun _ _ _ => .fail) (fun _ _ _ _ => .fail) .fail (fun _ => .fail) (fun _ _ => .fail) (fun _ _ => .fail) (fun _ => .fail) (fun _ => .fail) .fail
noncomputable def cvI (P : Program) (ti : TI) (s d : TypeId) (k : IntKind) (n : Int) : T AV :=
  @CK.casesOn (fun _ => T AV) ti.kind (fun k' => iRet k' n) .fail .fail (onO (pureOf P (convert s d (.int k n))) fun v => .ret (lift1 v)) .fail .fail .fail .fail
noncomputable def cvV (P : Program) (s d : TypeId) (x : Value) : T AV := onO (pureOf P (convert s d x)) fun v => .ret (lift1 v)
noncomputable def convA (P : Program) (ti : TI) (s d : TypeId) (a : AV) : T AV :=
  @AV.casesOn (fun _ => T AV) a (cvI P ti s d) (fun _ => .fail) (fun x => cvV P s d (.string x)) (cvV P s d)
    (fun _ _ _ => .fail) (fun _ _ _ _ => .fail) .fail (fun _ => .fail) (fun _ _ => .fail) (fun _ _ => .fail) (fun _ => .fail) (fun _ => .fail) .fail

noncomputable def lenA (u : Und) (x : AV) : T AV :=
  @Und.casesOn (fun _ => T AV) u
    (fun _ => @AV.casesOn (fun _ => T AV) x (fun _ _ => .fail) (fun _ => .fail) (fun _ => .fail) (fun v => lenV v)
      (fun _ _ _ => .fail) (fun _ _ n _ => .ret (.i .i64 n)) (.ret (.i .i64 0)) (fun _ => .fail) (fun _ _ => .fail) (fun _ _ => .fail) (fun _ => .fail) (fun _ => .fail) .fail)
    (fun n _ => .ret (.i .i64 n)) (fun _ => .fail) (onS x fun s => .ret (.i .i64 s.size)) .fail .fail .fail
noncomputable def minI (a b : AV) : T AV := onI a fun k x => onI b fun _ y => .ret (.i k (if y < x then y else x))
noncomputable def maxI (a b : AV) : T AV := onI a fun k x => onI b fun _ y => .ret (.i k (if y > x then y else x))
noncomputable def fold2 (f : AV → AV → T AV) (l : List AV) : AV → T AV := @List.rec AV (fun _ => AV → T AV) (fun a => .ret a) (fun x _ ih a => (f a x).bind ih) l
noncomputable def foldA (f : AV → AV → T AV) (M : Mem) (l : List AV) : T (AV × Mem) := @List.casesOn AV (fun _ => T (AV × Mem)) l .fail fun x l => (fold2 f l x).bind fun v => .ret (v, M)
noncomputable def on2 {β : Type} (l : List AV) (f : AV → AV → T β) : T β := @List.casesOn AV (fun _ => T β) l .fail fun x l => @List.casesOn AV (fun _ => T β) l .fail fun y _ => f x y
noncomputable def ex2 {α β : Type} (l : List α) (f : α → α → T β) : T β := @List.casesOn α (fun _ => T β) l .fail fun x l => @List.casesOn α (fun _ => T β) l .fail fun y l => @List.casesOn α (fun _ => T β) l (f x y) fun _ _ => .fail
noncomputable def hd? {α β : Type} (l : List α) (f : α → T β) : T β := @List.casesOn α (fun _ => T β) l .fail fun x _ => f x

/-- A value without addresses goes into an interface as it is. -/
noncomputable def plainL (l : List AV) : Option (List Value) := @List.rec AV (fun _ => Option (List Value)) (some []) (fun x _ ih =>
  @Option.rec (List Value) (fun _ => Option (List Value)) none (fun r => @AV.casesOn (fun _ => Option (List Value)) x (fun k n => some (.int k n :: r)) (fun b => some (.bool b :: r)) (fun s => some (.string s :: r)) (fun v => some (v :: r))
    (fun _ _ _ => none) (fun _ _ _ _ => none) none (fun _ => none) (fun _ _ => none) (fun _ _ => none) (fun _ => none) (fun _ => none) none) ih) l
noncomputable def mkIfc (M : Mem) (t : TypeId) (x : AV) : T (AV × Mem) :=
  @AV.casesOn (fun _ => T (AV × Mem)) x (fun k n => .ret (.v (.iface t (.int k n)), M)) (fun b => .ret (.v (.iface t (.bool b)), M)) (fun s => .ret (.v (.iface t (.string s)), M)) (fun v => .ret (.v (.iface t v), M))
    (fun a b c => .ret (.ifc t (.ptr a b c), M)) (fun _ _ _ _ => .fail) .fail (fun _ => .fail) (fun _ _ => .fail) (fun _ _ => .fail) (fun l => onO (plainL l) fun vs => .ret (.v (.iface t (.agg vs.toArray)), M)) (fun _ => .fail) .fail
def isIface : Value → Bool
  | .iface _ _ => true
  | _ => false
noncomputable def evPanic (M : Mem) (x : AV) : T (AV × Mem) :=
  @AV.casesOn (fun _ => T (AV × Mem)) x (fun _ _ => .fail) (fun _ => .fail) (fun _ => .fail) (fun v => .br (isIface v) (.pan (.v v) M) .fail)
    (fun _ _ _ => .fail) (fun _ _ _ _ => .fail) .fail (fun _ => .fail) (fun _ _ => .fail) (fun t x => .pan (.ifc t x) M) (fun _ => .fail) (fun _ => .fail) .fail

/-! ### Aggregates and rows that are made -/
noncomputable def setAt (ps : List AV) : List AV → Nat → List AV := @List.rec AV (fun _ => List AV → Nat → List AV) (fun l _ => l) (fun x _ ih l off => ih (l.set off x) (off + 1)) ps
/-- A part is laid: where, how many cells. -/
noncomputable def layPart (off size : Nat) (x : AV) (l : List AV) (k : List AV → T (AV × Mem)) : T (AV × Mem) :=
  .br (allLeaf x.cells && (Nat.beq x.cells.length size && Nat.ble (off + size) l.length)) (k (setAt x.cells l off)) .fail
noncomputable def layAll (place : Nat → Option (Nat × Nat)) (st : Tmps) (ps : List (Nat × Operand)) : List AV → (List AV → T (AV × Mem)) → T (AV × Mem) :=
  @List.rec (Nat × Operand) (fun _ => List AV → (List AV → T (AV × Mem)) → T (AV × Mem)) (fun l k => k l) (fun p _ ih l k => onO (place p.1) fun q => layPart q.1 q.2 (evA st p.2) l fun l => ih l k) ps
noncomputable def evBuild (tt : TT) (ti : TI) (M : Mem) (st : Tmps) (ps : List (Nat × Operand)) : T (AV × Mem) :=
  @Und.casesOn (fun _ => T (AV × Mem)) ti.u (fun _ => .fail)
    (fun _ el => onK (tt el).u .fail (layAll (fun i => some (i * (tt el).size, (tt el).size)) st ps ti.zero fun l => .ret (.agg l, M)))
    (fun fs => layAll (fun i => @Option.rec (Nat × TypeId × Nat) (fun _ => Option (Nat × Nat)) none (fun f => some (f.1, f.2.2)) (nth? fs i)) st ps ti.zero fun l => .ret (.agg l, M))
    .fail .fail .fail .fail
noncomputable def tile (z : List AV) (n : Nat) : List AV := @Nat.rec (fun _ => List AV) [] (fun _ ih => z ++ ih) n
noncomputable def newRowA (M : Mem) (elem : TypeId) (rs n : Nat) (cells : List AV) : T (AV × Mem) :=
  .br (allLeaf cells && Nat.beq cells.length (n * rs)) (.ret (.sl M.next 0 n (some n), M.new (.own elem rs cells))) .fail
noncomputable def buildSl (ti : TI) (M : Mem) (st : Tmps) (el n : Nat) (ps : List (Nat × Operand)) : T (AV × Mem) :=
  .br (Nat.blt 0 ti.size && Nat.ble (n * ti.size) 16777216) (layAll (fun i => some (i * ti.size, ti.size)) st ps (tile ti.zero n) (newRowA M el ti.size n)) .fail
noncomputable def evBuildSlice (tt : TT) (u : Und) (M : Mem) (st : Tmps) (n : Nat) (ps : List (Nat × Operand)) : T (AV × Mem) :=
  @Und.casesOn (fun _ => T (AV × Mem)) u (fun el => onK (tt el).u (buildSl (tt el) M st el n ps) (buildSl (tt el) M st el n ps)) (fun _ _ => .fail) (fun _ => .fail) .fail .fail .fail .fail

noncomputable def newArr (M : Mem) (elem : TypeId) (rs n : Nat) (cells : List AV) : T (AV × Mem) :=
  .br (allLeaf cells && Nat.beq cells.length (n * rs)) (.ret (.ptr M.next 0 0, M.new (.own elem rs cells))) .fail
noncomputable def evAlloc (tt : TT) (M : Mem) (e : TypeId) : T (AV × Mem) :=
  @Und.casesOn (fun _ => T (AV × Mem)) (tt e).u (fun _ => newOwn M e (tt e).size (tt e).zero) (fun n el => bif2 (Nat.blt 0 (tt el).size && Nat.beq (tt e).size (n * (tt el).size)) (newArr M e (tt el).size n (tt e).zero) (newOwn M e (tt e).size (tt e).zero)) (fun _ => newOwn M e (tt e).size (tt e).zero)
    (newOwn M e (tt e).size (tt e).zero) (newOwn M e (tt e).size (tt e).zero) (newOwn M e (tt e).size (tt e).zero) .fail
noncomputable def newRowB (M : Mem) (elem : TypeId) (rs n c : Nat) (cells : List AV) : T (AV × Mem) :=
  .br (allLeaf cells && Nat.beq cells.length (c * rs)) (.ret (.sl M.next 0 n (some c), M.new (.own elem rs cells))) .fail
noncomputable def mkSl (ti : TI) (M : Mem) (el : Nat) (l c : Int) : T (AV × Mem) :=
  .br (decide (0 ≤ l)) (.br (decide (l ≤ c)) (.br (decide (c ≤ 16777216)) (.br (Nat.blt 0 ti.size && Nat.ble (c.toNat * ti.bytes) 140737488355328) (newRowB M el ti.size l.toNat c.toNat (tile ti.zero c.toNat)) .fail) .fail) .fail) .fail
noncomputable def evMakeSlice (tt : TT) (u : Und) (M : Mem) (l c : AV) : T (AV × Mem) :=
  @Und.casesOn (fun _ => T (AV × Mem)) u (fun el => onI l fun _ l => onI c fun _ c => onK (tt el).u (mkSl (tt el) M el l c) (mkSl (tt el) M el l c)) (fun _ _ => .fail) (fun _ => .fail) .fail .fail .fail .fail

noncomputable def mkFn {β : Type} (M : Mem) (f : Fn) (a : List β) (b : List AV) : T (AV × Mem) := @List.casesOn β (fun _ => T (AV × Mem)) a (.ret (.fn f b, M)) (fun _ _ => .fail)
/-! ### Pieces -/
noncomputable def optI (st : Tmps) (o : Option Operand) (d : Int) (k : Int → T (AV × Mem)) : T (AV × Mem) := @Option.rec Operand (fun _ => T (AV × Mem)) (k d) (fun x => onI (evA st x) fun _ i => k i) o
noncomputable def slStr (M : Mem) (s : ByteArray) (l h : Int) : T (AV × Mem) :=
  .br (decide (0 ≤ h)) (.br (decide (h ≤ (s.size : Int))) (.br (decide (0 ≤ l)) (.br (decide (l ≤ h)) (.ret (.s (s.extract l.toNat h.toNat), M)) .fail) .fail) .fail) .fail
/-- From here on a capacity is told from below. -/
def bigC : Nat := 18446744073709551616
noncomputable def capSub (cap : Option Nat) (l : Nat) : Option Nat := @Option.rec Nat (fun _ => Option Nat) none (fun c => some (bif2 (Nat.blt c 18446744073709551616) (c - l) (bif2 (Nat.ble 18446744073709551616 (c - l)) (c - l) 18446744073709551616))) cap
noncomputable def capLow (cap : Option Nat) (n : Nat) : Option Nat := @Option.rec Nat (fun _ => Option Nat) (some (n + 18446744073709551616)) (fun c => some c) cap
noncomputable def lowOf (cap : Option Nat) (n : Nat) : Nat := @Option.rec Nat (fun _ => Nat) n (fun c => bif2 (Nat.ble (n + 18446744073709551616) c) (Nat.sub c 18446744073709551616) n) cap
noncomputable def ownIs {β : Type} (M : Mem) (id : Nat) (t : T β) : T β := @AObj.casesOn (fun _ => T β) (M.get id) .fail (fun _ _ _ => .fail) (fun _ _ _ => t) (fun _ _ _ => t) (fun _ _ => .fail)
noncomputable def slSl (M : Mem) (es id r n : Nat) (cap : Option Nat) (l h : Int) : T (AV × Mem) :=
  rsIs M id es (.br (decide (0 ≤ h)) (.br (decide (h ≤ (n : Int))) (.br (decide (0 ≤ l)) (.br (decide (l ≤ h))
    (.br (l == 0) (.ret (.sl id r h.toNat (capLow cap n), M)) (.br (decide (l < h)) (.ret (.sl id (r + l.toNat) (h - l).toNat (capSub cap l.toNat), M)) (.ret (.e, M)))) .fail) .fail)
    (.br (decide (h ≤ (lowOf cap n : Int))) (.br (decide (0 ≤ l)) (.br (decide (l < h)) (ownIs M id (.ret (.sl id (r + l.toNat) (h - l).toNat (capSub cap l.toNat), M))) .fail) .fail) .fail)) .fail)
noncomputable def slMax (M : Mem) (id r n : Nat) (h m : Int) : T (AV × Mem) :=
  .br (decide (0 ≤ m)) (.br (decide (m ≤ (n : Int))) (.br (decide (0 ≤ h)) (.br (decide (h ≤ m)) (.ret (.sl id r h.toNat (some m.toNat), M)) .fail) .fail) .fail) .fail
noncomputable def nilSl {β : Type} (v : Value) (t : T β) : T β := match v with
  | .slice none 0 0 => t
  | _ => .fail
noncomputable def slNil (M : Mem) (l h m : Int) : T (AV × Mem) := .br (l == 0 && (h == 0 && m == 0)) (.ret (.v (.slice none 0 0), M)) .fail
noncomputable def slNilA (M : Mem) (st : Tmps) (lo hi mx : Option Operand) : T (AV × Mem) := @Option.rec Operand (fun _ => T (AV × Mem)) (optI st lo 0 fun l => optI st hi 0 fun h => slNil M l h 0) (fun _ => .fail) mx
noncomputable def slOf (tt : TT) (M : Mem) (st : Tmps) (el : TypeId) (x : AV) (lo hi mx : Option Operand) : T (AV × Mem) :=
  @AV.casesOn (fun _ => T (AV × Mem)) x (fun _ _ => .fail) (fun _ => .fail) (fun _ => .fail) (fun v => nilSl v (onK (tt el).u (slNilA M st lo hi mx) (slNilA M st lo hi mx)))
    (fun _ _ _ => .fail) (fun id r n cap => @Option.rec Operand (fun _ => T (AV × Mem)) (optI st lo 0 fun l => optI st hi n fun h => onK (tt el).u (slSl M (tt el).size id r n cap l h) (slSl M (tt el).size id r n cap l h))
      (fun m => onI (evA st m) fun _ m => optI st lo 0 fun l => .br (l == 0) (@Option.rec Operand (fun _ => T (AV × Mem)) .fail (fun h => onI (evA st h) fun _ h => onK (tt el).u (slMax M id r n h m) (slMax M id r n h m)) hi) .fail) mx)
    .fail (fun _ => .fail) (fun _ _ => .fail) (fun _ _ => .fail) (fun _ => .fail) (fun _ => .fail) .fail
noncomputable def rowsIn (M : Mem) (id k : Nat) (t : T (AV × Mem)) : T (AV × Mem) :=
  @AObj.casesOn (fun _ => T (AV × Mem)) (M.get id) .fail (fun _ _ _ => .fail) (fun _ _ cells => .br (Nat.ble k cells.length) t .fail) (fun _ _ _ => .fail) (fun _ _ => .fail)
noncomputable def slArr (ti : TI) (M : Mem) (id r c n : Nat) (l h : Int) : T (AV × Mem) :=
  .br (Nat.beq c 0 && Nat.blt 0 ti.size) (rsIs M id ti.size (rowsIn M id ((r + n) * ti.size) (.br (decide (0 ≤ h)) (.br (decide (h ≤ (n : Int))) (.br (decide (0 ≤ l)) (.br (decide (l ≤ h))
    (.br (decide (l < (n : Int))) (.ret (.sl id (r + l.toNat) (h - l).toNat (some (n - l.toNat)), M)) (.ret (.e, M))) .fail) .fail) .fail) .fail))) .fail
noncomputable def arrSl (tt : TT) (M : Mem) (st : Tmps) (n : Nat) (el : TypeId) (x : AV) (lo hi mx : Option Operand) : T (AV × Mem) :=
  @Option.rec Operand (fun _ => T (AV × Mem)) (onPtr x fun id r c => optI st lo 0 fun l => optI st hi n fun h => onK (tt el).u (slArr (tt el) M id r c n l h) (slArr (tt el) M id r c n l h)) (fun _ => .fail) mx
noncomputable def evSlice (tt : TT) (u : Und) (M : Mem) (st : Tmps) (x : AV) (lo hi mx : Option Operand) : T (AV × Mem) :=
  @Und.casesOn (fun _ => T (AV × Mem)) u (fun el => slOf tt M st el x lo hi mx) (fun n el => arrSl tt M st n el x lo hi mx) (fun _ => .fail)
    (@Option.rec Operand (fun _ => T (AV × Mem)) (onS x fun s => optI st lo 0 fun l => optI st hi s.size fun h => slStr M s l h) (fun _ => .fail) mx) .fail .fail .fail

/-! ### append -/
/-- What stands in a row. -/
inductive AC where
  | cells (l : List AV)
  | cols (n : Nat) (l : List Col)
def Col.part (r n : Nat) : Col → Col
  | .ci k l => .ci k ((l.drop r).take n)
  | .cs l => .cs ((l.drop r).take n)
  | .cb l => .cb ((l.drop r).take n)
  | .cf k l => .cf k ((l.drop r).take n)
  | .cl h sub => .cl ((h.drop r).take n) (fun i => sub (r + i))
def Col.app : Col → Col → Option Col
  | .ci k l, .ci k' l' => if k = k' then some (.ci k (l ++ l')) else none
  | .cs l, .cs l' => some (.cs (l ++ l'))
  | .cb l, .cb l' => some (.cb (l ++ l'))
  | .cf k l, .cf k' l' => if k = k' then some (.cf k (l ++ l')) else none
  | _, _ => none
def colsApp : List Col → List Col → Option (List Col)
  | [], [] => some []
  | a :: l, b :: m => (Col.app a b).bind fun c => (colsApp l m).map (c :: ·)
  | _, _ => none
noncomputable def acOf (o : AObj) (r n : Nat) (f : AC → T (AV × Mem)) : T (AV × Mem) :=
  @AObj.casesOn (fun _ => T (AV × Mem)) o .fail
    (fun _ m cols => .br (Nat.ble (r + n) m) (f (.cols n (cols.map (Col.part r n)))) .fail)
    (fun _ rs cells => .br (Nat.ble ((r + n) * rs) cells.length && allLeaf ((cells.drop (r * rs)).take (n * rs))) (f (.cells ((cells.drop (r * rs)).take (n * rs)))) .fail)
    (fun _ m cols => .br (Nat.ble (r + n) m) (f (.cols n (cols.map (Col.part r n)))) .fail) (fun _ _ => .fail)
def iOf (k : IntKind) : AV → Option Int
  | .i k' n => if k = k' then some n else none
  | _ => none
def sOf : AV → Option ByteArray
  | .s x => some x
  | _ => none
def bOf : AV → Option Bool
  | .b x => some x
  | _ => none
def fOf : AV → Option Nat
  | .v (.float .f64 x) => some x
  | _ => none
/-- A row's column out of its cells. -/
def pick {α : Type} (f : AV → Option α) (rs c : Nat) (cells : List AV) : Nat → Option (List α)
  | 0 => some []
  | n + 1 => (pick f rs c cells n).bind fun l => ((cells[n * rs + c]?).bind f).map fun x => l ++ [x]
def colOf (rs c n : Nat) (cells : List AV) : CK → Option Col
  | .int k => (pick (iOf k) rs c cells n).map (.ci k)
  | .str => (pick sOf rs c cells n).map .cs
  | .bool => (pick bOf rs c cells n).map .cb
  | .flt => (pick fOf rs c cells n).map (.cf .f64)
  | _ => none
def colsOf (rs n : Nat) (cells : List AV) : Nat → List CK → Option (List Col)
  | _, [] => some []
  | c, k :: ks => (colOf rs c n cells k).bind fun x => (colsOf rs n cells (c + 1) ks).map (x :: ·)
def plainK : List CK → Bool
  | [] => true
  | .other :: _ => false
  | .ptr :: _ => false
  | .mp :: _ => false
  | .fnc :: _ => false
  | _ :: l => plainK l
noncomputable def normC (ti : TI) (n : Nat) (c : AC) : Option AC :=
  @AC.casesOn (fun _ => Option AC) c (fun l => bif2 (plainK ti.kinds) ((colsOf ti.size n l 0 ti.kinds).map (.cols n)) (some (.cells l))) (fun n l => some (.cols n l))
def joinC : AC → AC → Option AC
  | .cells l, .cells m => some (.cells (l ++ m))
  | .cols n l, .cols m r => (colsApp l r).map (.cols (n + m))
  | _, _ => none
noncomputable def objOf (el rs : Nat) (c : AC) : AObj := @AC.casesOn (fun _ => AObj) c (fun l => .own el rs l) (fun n l => .vec el n l)
noncomputable def okC (rs n : Nat) (c : AC) : Bool := @AC.casesOn (fun _ => Bool) c (fun l => allLeaf l && Nat.beq l.length (n * rs)) (fun m l => Nat.beq m n && Nat.beq l.length rs)
noncomputable def avCol (j : Nat) (col : Col) : Option AV :=
  @Col.casesOn (fun _ => Option AV) col (fun k l => some (.i k (l.getD j 0))) (fun l => some (.s (l.getD j ByteArray.empty))) (fun l => some (.b (l.getD j false))) (fun k l => some (.v (.float k (l.getD j 0)))) (fun _ _ => none)
noncomputable def avL (rs : Nat) (cols : List Col) (n : Nat) : Nat → Option (List AV) :=
  @Nat.rec (fun _ => Nat → Option (List AV)) (fun _ => some []) (fun _ ih i => @Option.rec Col (fun _ => Option (List AV)) none (fun col => @Option.rec AV (fun _ => Option (List AV)) none (fun x => @Option.rec (List AV) (fun _ => Option (List AV)) none (fun l => some (x :: l)) (ih (i + 1))) (avCol (i / rs) col)) (nth? cols (i % rs))) n
noncomputable def gatherA (rs k : Nat) (c : AC) : Option (List AV) := @AC.casesOn (fun _ => Option (List AV)) c (fun l => some l) (fun _ cols => avL rs cols (k * rs) 0)
noncomputable def storeFlat (id r rs : Nat) (l : List AV) : Mem → Nat → T Mem :=
  @List.rec AV (fun _ => Mem → Nat → T Mem) (fun M _ => .ret M) (fun x _ ih M i => (storeCell M id (r + i / rs) (i % rs) x).bind fun M => ih M (i + 1)) l
/-- The room that is asked for. -/
noncomputable def roomy (ti : TI) (n : Nat) (t : T (AV × Mem)) : T (AV × Mem) := .br (Nat.blt 0 ti.bytes && Nat.ble (n * ti.bytes) 140737488355328) t .fail
noncomputable def putNew (M : Mem) (el rs n : Nat) (c : AC) : T (AV × Mem) := .br (okC rs n c) (.ret (.sl M.next 0 n none, M.new (objOf el rs c))) .fail
noncomputable def appNil (ti : TI) (M : Mem) (el m : Nat) (s : AV) (c : AC) : T (AV × Mem) :=
  .br (Nat.beq m 0) (.ret (s, M)) (roomy ti m (onO (normC ti m c) (putNew M el ti.size m)))
noncomputable def appOwn (ti : TI) (M : Mem) (el id n m : Nat) (c : AC) : T (AV × Mem) :=
  @AObj.casesOn (fun _ => T (AV × Mem)) (M.get id) .fail (fun _ _ _ => .fail) (fun e _ _ => .br (Nat.beq e el) appOwn1 .fail) (fun e _ _ => .br (Nat.beq e el) appOwn1 .fail) (fun _ _ => .fail)
where appOwn1 : T (AV × Mem) := .br (Nat.ble M.lock id) (acOf (M.get id) 0 n fun d => roomy ti (n + m) (onO (normC ti n d) fun d => onO (normC ti m c) fun c => onO (joinC d c) (putNew (M.set id .dead) el ti.size (n + m)))) .fail
/-- There is room. -/
noncomputable def appIn (ti : TI) (M : Mem) (el id n m : Nat) (cap : Option Nat) (c : AC) : T (AV × Mem) :=
  @AObj.casesOn (fun _ => T (AV × Mem)) (M.get id) .fail (fun _ _ _ => .fail) (fun e _ _ => .br (Nat.beq e el) appIn1 .fail) (fun e _ _ => .br (Nat.beq e el) appIn1 .fail) (fun _ _ => .fail)
where appIn1 : T (AV × Mem) := .br (Nat.ble M.lock id && Nat.blt 0 ti.size) (onO (gatherA ti.size m c) fun l => (storeFlat id n ti.size l M 0).bind fun M => .ret (.sl id 0 (n + m) cap, M)) .fail
noncomputable def appSl (ti : TI) (M : Mem) (el m id r n : Nat) (cap : Option Nat) (c : AC) : T (AV × Mem) :=
  @Option.rec Nat (fun _ => T (AV × Mem)) (.br (Nat.beq r 0) (rsIs M id ti.size (appOwn ti M el id n m c)) .fail)
    (fun k => bif2 (Nat.beq k 0) (appNil ti M el m (.sl id r n cap) c) (bif2 (Nat.ble (n + m + 18446744073709551616) k) (.br (Nat.beq r 0) (rsIs M id ti.size (appIn ti M el id n m (some k) c)) .fail) (.br (Nat.beq r 0) (rsIs M id ti.size (appOwn ti M el id n m c)) .fail))) cap
noncomputable def appTo (ti : TI) (M : Mem) (el m : Nat) (s : AV) (c : AC) : T (AV × Mem) :=
  @AV.casesOn (fun _ => T (AV × Mem)) s (fun _ _ => .fail) (fun _ => .fail) (fun _ => .fail) (fun v => nilSl v (appNil ti M el m (.v v) c))
    (fun _ _ _ => .fail) (fun id r n cap => appSl ti M el m id r n cap c) .fail (fun _ => .fail) (fun _ _ => .fail) (fun _ _ => .fail) (fun _ => .fail) (fun _ => .fail) .fail
def bytesCol (s : ByteArray) : List Int := s.data.toList.map fun b => (b.toNat : Int)
noncomputable def ifIntK {β : Type} (k : CK) (t : T β) : T β := @CK.casesOn (fun _ => T β) k (fun _ => t) .fail .fail .fail .fail .fail .fail .fail
noncomputable def appZeros (kx : CK) (ti : TI) (M : Mem) (el : Nat) (s x : AV) : T (AV × Mem) :=
  ifIntK kx (onI x fun _ k => .br (decide (0 ≤ k) && (decide (k ≤ 16777216) && (Nat.blt 0 ti.size && (Nat.ble (k.toNat * ti.bytes) 140737488355328 && allLeaf (tile ti.zero k.toNat))))) (appTo ti M el k.toNat s (.cells (tile ti.zero k.toNat))) .fail)
noncomputable def appSrc (tx : Und) (kx : CK) (ti : TI) (M : Mem) (el : Nat) (s x : AV) : T (AV × Mem) :=
  @Und.casesOn (fun _ => T (AV × Mem)) tx
    (fun _ => @AV.casesOn (fun _ => T (AV × Mem)) x (fun _ _ => .fail) (fun _ => .fail) (fun _ => .fail) (fun v => nilSl v (appTo ti M el 0 s (.cells [])))
      (fun _ _ _ => .fail) (fun id r m _ => rsIs M id ti.size (acOf (M.get id) r m fun c => appTo ti M el m s c)) (appTo ti M el 0 s (.cells [])) (fun _ => .fail) (fun _ _ => .fail) (fun _ _ => .fail) (fun _ => .fail) (fun _ => .fail) .fail)
    (fun _ _ => .fail) (fun _ => .fail) (onS x fun b => .br (Nat.beq ti.size 1) (appTo ti M el b.size s (.cols b.size [.ci .u8 (bytesCol b)])) .fail) (appZeros kx ti M el s x) .fail .fail
noncomputable def evAppend (tt : TT) (M : Mem) (t tx : TypeId) (s x : AV) : T (AV × Mem) :=
  @Und.casesOn (fun _ => T (AV × Mem)) (tt t).u (fun el => onK (tt el).u (onK (tt tx).u .fail (appSrc (tt tx).u (tt tx).kind (tt el) M el s x)) (onK (tt tx).u .fail (appSrc (tt tx).u (tt tx).kind (tt el) M el s x))) (fun _ _ => .fail) (fun _ => .fail) .fail .fail .fail .fail

/-! ### copy -/
noncomputable def copyTo (M : Mem) (id r rs k : Nat) (l : List AV) : T (AV × Mem) := (storeFlat id r rs l M 0).bind fun M => .ret (.i .i64 (k : Int), M)
noncomputable def minN (m n : Nat) : Nat := bif2 (Nat.ble m n) m n
noncomputable def copySrc (tx : Und) (ti : TI) (M : Mem) (n : Nat) (x : AV) (f : Nat → List AV → T (AV × Mem)) : T (AV × Mem) :=
  @Und.casesOn (fun _ => T (AV × Mem)) tx
    (fun _ => @AV.casesOn (fun _ => T (AV × Mem)) x (fun _ _ => .fail) (fun _ => .fail) (fun _ => .fail) (fun v => nilSl v (f 0 []))
      (fun _ _ _ => .fail) (fun id r m _ => rsIs M id ti.size (acOf (M.get id) r (minN m n) fun c => onO (gatherA ti.size (minN m n) c) fun l => f (minN m n) l)) (f 0 []) (fun _ => .fail) (fun _ _ => .fail) (fun _ _ => .fail) (fun _ => .fail) (fun _ => .fail) .fail)
    (fun _ _ => .fail) (fun _ => .fail) (onS x fun b => .br (Nat.beq ti.size 1) (f (minN b.size n) (((bytesCol b).take (minN b.size n)).map (.i .u8))) .fail) .fail .fail .fail
noncomputable def copyDst (tx : Und) (ti : TI) (M : Mem) (s x : AV) : T (AV × Mem) :=
  @AV.casesOn (fun _ => T (AV × Mem)) s (fun _ _ => .fail) (fun _ => .fail) (fun _ => .fail) (fun v => nilSl v (copySrc tx ti M 0 x fun _ _ => .ret (.i .i64 0, M)))
    (fun _ _ _ => .fail) (fun id r n _ => .br (Nat.blt 0 ti.size) (rsIs M id ti.size (copySrc tx ti M n x fun k l => copyTo M id r ti.size k l)) .fail) (copySrc tx ti M 0 x fun _ _ => .ret (.i .i64 0, M)) (fun _ => .fail) (fun _ _ => .fail) (fun _ _ => .fail) (fun _ => .fail) (fun _ => .fail) .fail
noncomputable def evCopy (tt : TT) (M : Mem) (t tx : TypeId) (s x : AV) : T (AV × Mem) :=
  @Und.casesOn (fun _ => T (AV × Mem)) (tt t).u (fun el => onK (tt el).u (onK (tt tx).u .fail (copyDst (tt tx).u (tt el) M s x)) (onK (tt tx).u .fail (copyDst (tt tx).u (tt el) M s x))) (fun _ _ => .fail) (fun _ => .fail) .fail .fail .fail .fail

noncomputable def clearSl (ti : TI) (M : Mem) (x : AV) : T (AV × Mem) :=
  @AV.casesOn (fun _ => T (AV × Mem)) x (fun _ _ => .fail) (fun _ => .fail) (fun _ => .fail) (fun v => nilSl v (.ret (.tup [], M)))
    (fun _ _ _ => .fail) (fun id r n _ => .br (Nat.blt 0 ti.size) (rsIs M id ti.size (.br (Nat.beq n 0) (.ret (.tup [], M)) ((storeFlat id r ti.size (tile ti.zero n) M 0).bind fun M => .ret (.tup [], M)))) .fail)
    (.ret (.tup [], M)) (fun _ => .fail) (fun _ _ => .fail) (fun _ _ => .fail) (fun _ => .fail) (fun _ => .fail) .fail
noncomputable def evClear (tt : TT) (M : Mem) (t : TypeId) (x : AV) : T (AV × Mem) :=
  @Und.casesOn (fun _ => T (AV × Mem)) (tt t).u (fun el => onK (tt el).u (clearSl (tt el) M x) (clearSl (tt el) M x)) (fun _ _ => .fail) (fun _ => .fail) .fail .fail .fail .fail
noncomputable def builtinA (tt : TT) (M : Mem) (b : Builtin) (ts : List TypeId) (l : List AV) : T (AV × Mem) :=
  match b with
  | .len => hd? ts fun t => hd? l fun x => onK (tt t).u ((lenA (tt t).u x).bind fun v => .ret (v, M)) ((lenA (tt t).u x).bind fun v => .ret (v, M))
  | .min => foldA minI M l
  | .max => foldA maxI M l
  | .append => ex2 l fun s x => ex2 ts fun t tx => evAppend tt M t tx s x
  | .copy => ex2 l fun s x => ex2 ts fun t tx => evCopy tt M t tx s x
  | .clear => hd? ts fun t => hd? l fun x => evClear tt M t x
  | _ => .fail
noncomputable def callA (callF : FuncId → List AV → Mem → T (AV × Mem)) (M : Mem) (l : List AV) (f : Fn) (caps : List AV) : T (AV × Mem) :=
  @Fn.casesOn (fun _ => T (AV × Mem)) f (fun f => callF f (l ++ caps) M) (fun _ => .fail) (fun _ _ => .fail) (fun _ _ _ _ => .fail) (fun _ => .fail)
noncomputable def evCall (tt : TT) (callF : FuncId → List AV → Mem → T (AV × Mem)) (M : Mem) (st : Tmps) (c : Call) : T (AV × Mem) :=
  @Callee.casesOn (fun _ => T (AV × Mem)) c.callee (fun f => onFn (evA st f) (callA callF M (c.args.toList.map (evA st)))) (fun _ _ => .fail) (fun b => builtinA tt M b c.argTypes.toList (c.args.toList.map (evA st)))
noncomputable def retM (M : Mem) (x : T AV) : T (AV × Mem) := x.bind fun v => .ret (v, M)
/-! ### More that is compared -/
noncomputable def cmpR (op : BinOp) (M : Mem) (r : Bool) : T (AV × Mem) :=
  @BinOp.casesOn (fun _ => T (AV × Mem)) op .fail .fail .fail .fail .fail .fail .fail .fail .fail .fail .fail (.ret (.b r, M)) (.ret (.b (!r), M)) .fail .fail .fail .fail
noncomputable def eqCell {β : Type} (k : CK) (a b : AV) (f : Bool → T β) : T β :=
  @CK.casesOn (fun _ => T β) k (fun _ => onI a fun ka x => onI b fun kb y => .br (decide (ka = kb)) (f (x == y)) .fail) (onS a fun x => onS b fun y => f (x.toList == y.toList)) (onB a fun x => onB b fun y => f (x == y)) .fail .fail .fail .fail .fail
noncomputable def eqFs0 {β : Type} (tt : TT) (l m : List AV) (fs : List (Nat × TypeId × Nat)) : (Bool → T β) → T β :=
  @List.rec (Nat × TypeId × Nat) (fun _ => (Bool → T β) → T β) (fun k => k true) (fun f _ ih k => (sel l f.1).bind fun a => (sel m f.1).bind fun b => onK (tt f.2.1).u .fail (eqCell (tt f.2.1).kind a b fun r => ih fun s => k (r && s))) fs
noncomputable def eqFs {β : Type} (tt : TT) (l m : List AV) (fs : List (Nat × TypeId × Nat)) : (Bool → T β) → T β :=
  @List.rec (Nat × TypeId × Nat) (fun _ => (Bool → T β) → T β) (fun k => k true) (fun f _ ih k => onK (tt f.2.1).u
    (onSt (tt f.2.1).u fun gs => .br (tt f.2.1).cmp (eqFs0 tt ((l.drop f.1).take f.2.2) ((m.drop f.1).take f.2.2) gs fun r => ih fun s => k (r && s)) .fail)
    ((sel l f.1).bind fun a => (sel m f.1).bind fun b => eqCell (tt f.2.1).kind a b fun r => ih fun s => k (r && s))) fs
noncomputable def eqAgg (tt : TT) (t : TypeId) (op : BinOp) (M : Mem) (l : List AV) (b : AV) : T (AV × Mem) :=
  onAgg b fun m => onSt (tt t).u fun fs => .br (tt t).cmp (eqFs tt l m fs (cmpR op M)) .fail
noncomputable def ifK {β : Type} (k : CK) (p m f : T β) : T β := @CK.casesOn (fun _ => T β) k (fun _ => .fail) .fail .fail .fail p m f .fail
noncomputable def onUsl {β : Type} (u : Und) (t : T β) : T β := @Und.casesOn (fun _ => T β) u (fun _ => t) (fun _ _ => .fail) (fun _ => .fail) .fail .fail .fail .fail
noncomputable def onUifc {β : Type} (u : Und) (t : T β) : T β := @Und.casesOn (fun _ => T β) u (fun _ => .fail) (fun _ _ => .fail) (fun _ => .fail) .fail .fail t .fail
noncomputable def nilFlag {β : Type} (o : AObj) (f : Bool → T β) : T β := @AObj.casesOn (fun _ => T β) o .fail (fun b _ _ => f b) (fun _ _ _ => f false) (fun _ _ _ => f false) (fun _ _ => .fail)
noncomputable def nilPtr {β : Type} (v : Value) (t : T β) : T β := match v with
  | .pointer none => t
  | _ => .fail
noncomputable def nilMap {β : Type} (v : Value) (t : T β) : T β := match v with
  | .map none => t
  | _ => .fail
noncomputable def nilFn {β : Type} (v : Value) (t : T β) : T β := match v with
  | .nilFunc => t
  | _ => .fail
noncomputable def nilIfc {β : Type} (v : Value) (t : T β) : T β := match v with
  | .nilIface => t
  | _ => .fail
/-- What has an address, beside nil. -/
noncomputable def nilA {β : Type} (M : Mem) (ti : TI) (a : AV) (v : Value) (f : Bool → T β) : T β :=
  @AV.casesOn (fun _ => T β) a (fun _ _ => .fail) (fun _ => .fail) (fun _ => .fail) (fun _ => .fail) (fun _ _ _ => nilPtr v (ifK ti.kind (f false) .fail .fail)) (fun id _ _ _ => nilSl v (onUsl ti.u (nilFlag (M.get id) f)))
    (nilSl v (onUsl ti.u (f false))) (fun _ => nilMap v (ifK ti.kind .fail (f false) .fail)) (fun _ _ => nilFn v (ifK ti.kind .fail .fail (f false))) (fun _ _ => nilIfc v (onUifc ti.u (f false))) (fun _ => .fail) (fun _ => .fail) .fail
noncomputable def addrA (a : AV) : Bool :=
  @AV.casesOn (fun _ => Bool) a (fun _ _ => false) (fun _ => false) (fun _ => false) (fun _ => false) (fun _ _ _ => true) (fun _ _ _ _ => true) true (fun _ => true) (fun _ _ => true) (fun _ _ => true) (fun _ => false) (fun _ => false) false
noncomputable def evBin (P : Program) (tt : TT) (M : Mem) (op : BinOp) (t : TypeId) (x y : Operand) (a b : AV) : T (AV × Mem) :=
  bif2 (addrA a) (onV b fun v => nilA M (tt t) a v (cmpR op M)) (bif2 (addrA b) (onV a fun v => nilA M (tt t) b v (cmpR op M))
    (@AV.casesOn (fun _ => T (AV × Mem)) a (fun _ _ => retM M (binA P (tt t).kind op t x y a b)) (fun _ => retM M (binA P (tt t).kind op t x y a b)) (fun _ => retM M (binA P (tt t).kind op t x y a b)) (fun _ => retM M (binA P (tt t).kind op t x y a b))
      (fun _ _ _ => .fail) (fun _ _ _ _ => .fail) .fail (fun _ => .fail) (fun _ _ => .fail) (fun _ _ => .fail) (fun l => eqAgg tt t op M l b) (fun _ => .fail) .fail))

/-! ### Strings and bytes -/
noncomputable def ifU8 {β : Type} (k : CK) (t : T β) : T β := @CK.casesOn (fun _ => T β) k (fun k => @IntKind.casesOn (fun _ => T β) k .fail .fail .fail .fail t .fail .fail .fail) .fail .fail .fail .fail .fail .fail .fail
noncomputable def toBytes (M : Mem) (el : TypeId) (b : ByteArray) : T (AV × Mem) := .ret (.sl M.next 0 b.size none, M.new (.vec el b.size [.ci .u8 (bytesCol b)]))
noncomputable def strOf (l : List Int) : ByteArray := ⟨(l.map fun n => UInt8.ofNat n.toNat).toArray⟩
def u8col : AC → Option (List Int)
  | .cols _ [.ci .u8 l] => some l
  | _ => none
noncomputable def ofBytes (ti : TI) (M : Mem) (id r n : Nat) : T (AV × Mem) :=
  .br (Nat.beq ti.size 1) (rsIs M id ti.size (acOf (M.get id) r n fun c => onO (normC ti n c) fun c => onO (u8col c) fun l => .ret (.s (strOf l), M))) .fail
noncomputable def onUslE {β : Type} (u : Und) (f : TypeId → T β) : T β := @Und.casesOn (fun _ => T β) u f (fun _ _ => .fail) (fun _ => .fail) .fail .fail .fail .fail
noncomputable def markSl (M : Mem) (id r n : Nat) (cap : Option Nat) : T (AV × Mem) :=
  @AObj.casesOn (fun _ => T (AV × Mem)) (M.get id) .fail (fun _ _ _ => .fail) (fun _ _ _ => .br (Nat.ble M.lock id) (.ret (.sl id r n cap, M)) .fail) (fun _ _ _ => .br (Nat.ble M.lock id) (.ret (.sl id r n cap, M)) .fail) (fun _ _ => .fail)
noncomputable def evConv (P : Program) (tt : TT) (M : Mem) (s d : TypeId) (x : AV) : T (AV × Mem) :=
  @AV.casesOn (fun _ => T (AV × Mem)) x (fun _ _ => retM M (convA P (tt d) s d x)) (fun _ => retM M (convA P (tt d) s d x))
    (fun b => @Und.casesOn (fun _ => T (AV × Mem)) (tt d).u (fun el => onK (tt el).u .fail (ifU8 (tt el).kind (toBytes M el b))) (fun _ _ => .fail) (fun _ => .fail) (retM M (convA P (tt d) s d x)) .fail .fail .fail)
    (fun _ => retM M (convA P (tt d) s d x)) (fun _ _ _ => .fail)
    (fun id r n cap => @Und.casesOn (fun _ => T (AV × Mem)) (tt d).u (fun el => .br (Nat.beq s d) (onK (tt el).u .fail (ifU8 (tt el).kind (markSl M id r n cap))) .fail) (fun _ _ => .fail) (fun _ => .fail) (onUslE (tt s).u fun el => onK (tt el).u .fail (ifU8 (tt el).kind (ofBytes (tt el) M id r n))) .fail .fail .fail)
    .fail (fun _ => .fail) (fun _ _ => .fail) (fun _ _ => .fail) (fun _ => .fail) (fun _ => .fail) .fail

/-! ### Maps of plain keys and values; what an interface holds -/
noncomputable def onMp {β : Type} (x : AV) (f : Nat → T β) : T β := @AV.casesOn (fun _ => T β) x (fun _ _ => .fail) (fun _ => .fail) (fun _ => .fail) (fun _ => .fail) (fun _ _ _ => .fail) (fun _ _ _ _ => .fail) .fail f (fun _ _ => .fail) (fun _ _ => .fail) (fun _ => .fail) (fun _ => .fail) .fail
noncomputable def onMapO {β : Type} (o : AObj) (f : List MapEntry → Nat → T β) : T β := @AObj.casesOn (fun _ => T β) o .fail (fun _ _ _ => .fail) (fun _ _ _ => .fail) (fun _ _ _ => .fail) f
noncomputable def plainV (x : AV) : Option Value := @AV.casesOn (fun _ => Option Value) x (fun k n => some (.int k n)) (fun b => some (.bool b)) (fun s => some (.string s)) (fun _ => none) (fun _ _ _ => none) (fun _ _ _ _ => none) none (fun _ => none) (fun _ _ => none) (fun _ _ => none)
  (fun l => @Option.rec (List Value) (fun _ => Option Value) none (fun vs => some (.agg vs.toArray)) (plainL l)) (fun _ => none) none
def liftT : Value → AV
  | .tuple cs => .tup (cs.toList.map lift)
  | x => lift x
noncomputable def evMakeMap (M : Mem) (r : Option Operand) : T (AV × Mem) := @Option.rec Operand (fun _ => T (AV × Mem)) (.ret (.mp M.next, M.new (.map [] 0))) (fun _ => .fail) r
def lookupG (es : List MapEntry) (xType : TypeId) (kv : Value) (ck : Bool) : Sem Value := do
  let .map keyType elem ← underlying xType | stuck "Lookup: map type expected"
  Instr.checkKey es.isEmpty 10000 keyType kv
  let (v, ok) ← match ← Instr.findKey keyType kv es with
    | some (_, v) => pure (v, true)
    | none => pure (← zeroValue elem, false)
  pure (if ck then .tuple #[v, .bool ok] else v)
def updG (es : List MapEntry) (t : TypeId) (kv : Value) : Sem (Option (Nat × Value)) := do
  let .map keyType _ ← underlying t | stuck "MapUpdate: map type expected"
  Instr.checkKey false 10000 keyType kv
  Instr.findKey keyType kv es
noncomputable def evLookup (P : Program) (M : Mem) (t : TypeId) (x ix : AV) (ck : Bool) : T (AV × Mem) :=
  onMp x fun id => onMapO (M.get id) fun es _ => onO (plainV ix) fun kv => onO (pureOf P (lookupG es t kv ck)) fun v => .ret (liftT v, M)
noncomputable def isNone' {α β : Type} (x : Option α) (t : T β) : T β := @Option.rec α (fun _ => T β) t (fun _ => .fail) x
noncomputable def evMapUpd (P : Program) (M : Mem) (t : TypeId) (m k v : AV) : T (AV × Mem) :=
  onMp m fun id => onMapO (M.get id) fun es cl => .br (Nat.ble M.lock id) (onO (plainV k) fun kv => onO (plainV v) fun vv => onO (pureOf P (updG es t kv)) fun r => isNone' r (.ret (.v undef, M.set id (.map (es ++ [⟨kv, vv, cl⟩]) (cl + 1))))) .fail
noncomputable def evAssert (P : Program) (M : Mem) (x : AV) (t a : TypeId) (ck : Bool) : T (AV × Mem) := onV x fun v => onO (pureOf P (Instr.typeAssert v t a ck)) fun r => .ret (liftT r, M)
/-- What an operation is told. -/
structure Ctx where
  P : Program
  tt : TT
  callF : FuncId → List AV → Mem → T (AV × Mem)
  M : Mem
  st : Tmps
abbrev OpR := Ctx → T (AV × Mem)
noncomputable def op_move (x : Operand) (K : Ctx) : T (AV × Mem) := .ret (evA K.st x, K.M)
noncomputable def op_assign (x : Operand) (K : Ctx) : T (AV × Mem) := .ret (evA K.st x, K.M)
noncomputable def op_pick (c : Operand) (a : Operand) (b : Operand) (K : Ctx) : T (AV × Mem) := onB (evA K.st c) fun t => .br t (.ret (evA K.st a, K.M)) (.ret (evA K.st b, K.M))
noncomputable def op_alloc (e : TypeId) (K : Ctx) : T (AV × Mem) := evAlloc K.tt K.M e
noncomputable def op_box (e : TypeId) (x : Operand) (K : Ctx) : T (AV × Mem) := newOwn K.M e (evA K.st x).cells.length (evA K.st x).cells
noncomputable def op_build (t : TypeId) (ps : Array (Nat × Operand)) (K : Ctx) : T (AV × Mem) := evBuild K.tt (K.tt t) K.M K.st ps.toList
noncomputable def op_buildSlice (t : TypeId) (n : Nat) (ps : Array (Nat × Operand)) (K : Ctx) : T (AV × Mem) := evBuildSlice K.tt (K.tt t).u K.M K.st n ps.toList
noncomputable def op_load (t : TypeId) (a : Operand) (K : Ctx) : T (AV × Mem) := evLoad (K.tt t) K.M (evA K.st a)
noncomputable def op_store (t : TypeId) (a : Operand) (x : Operand) (K : Ctx) : T (AV × Mem) := evStore (K.tt t) K.M (evA K.st a) (evA K.st x)
noncomputable def op_nilCheck (x : Operand) (K : Ctx) : T (AV × Mem) := onPtr (evA K.st x) fun id r c => .ret (.ptr id r c, K.M)
noncomputable def op_binOp (op : BinOp) (t : TypeId) (x : Operand) (y : Operand) (_x4 : TypeId) (K : Ctx) : T (AV × Mem) := onK (K.tt t).u (evBin K.P K.tt K.M op t x y (evA K.st x) (evA K.st y)) (evBin K.P K.tt K.M op t x y (evA K.st x) (evA K.st y))
noncomputable def op_unOp (op : UnOp) (_x1 : TypeId) (x : Operand) (K : Ctx) : T (AV × Mem) := retM K.M (unA K.P op (evA K.st x))
noncomputable def op_convert (s : TypeId) (d : TypeId) (x : Operand) (K : Ctx) : T (AV × Mem) := onK (K.tt d).u .fail (evConv K.P K.tt K.M s d (evA K.st x))
noncomputable def op_makeInterface (t : TypeId) (x : Operand) (K : Ctx) : T (AV × Mem) := onC (K.tt t).u (mkIfc K.M t (evA K.st x))
noncomputable def op_makeFunc (f : Fn) (a : Array Operand) (b : Array Operand) (K : Ctx) : T (AV × Mem) := mkFn K.M f a.toList (b.toList.map (evA K.st))
noncomputable def op_makeMap (_x0 : TypeId) (r : Option Operand) (K : Ctx) : T (AV × Mem) := evMakeMap K.M r
noncomputable def op_makeSlice (t : TypeId) (l : Operand) (c : Operand) (K : Ctx) : T (AV × Mem) := evMakeSlice K.tt (K.tt t).u K.M (evA K.st l) (evA K.st c)
noncomputable def op_slice (t : TypeId) (x : Operand) (lo : Option Operand) (hi : Option Operand) (mx : Option Operand) (K : Ctx) : T (AV × Mem) := evSlice K.tt (K.tt t).u K.M K.st (evA K.st x) lo hi mx
noncomputable def op_fieldAddr (t : TypeId) (x : Operand) (f : Nat) (K : Ctx) : T (AV × Mem) := evFieldAddr (K.tt t).u K.M (evA K.st x) f
noncomputable def op_field (t : TypeId) (x : Operand) (f : Nat) (K : Ctx) : T (AV × Mem) := evField K.tt (K.tt t).u K.M (evA K.st x) f
noncomputable def op_indexAddr (t : TypeId) (x : Operand) (ix : Operand) (K : Ctx) : T (AV × Mem) := evIndexAddr K.tt (K.tt t).u K.M (evA K.st x) (evA K.st ix)
noncomputable def op_index (t : TypeId) (x : Operand) (ix : Operand) (K : Ctx) : T (AV × Mem) := evIndex K.tt (K.tt t).u K.M (evA K.st x) (evA K.st ix)
noncomputable def op_lookup (t : TypeId) (x : Operand) (ix : Operand) (ck : Bool) (K : Ctx) : T (AV × Mem) := evLookup K.P K.M t (evA K.st x) (evA K.st ix) ck
noncomputable def op_mapUpdate (t : TypeId) (m : Operand) (k : Operand) (v : Operand) (K : Ctx) : T (AV × Mem) := evMapUpd K.P K.M t (evA K.st m) (evA K.st k) (evA K.st v)
noncomputable def op_typeAssert (x : Operand) (t : TypeId) (a : TypeId) (ck : Bool) (K : Ctx) : T (AV × Mem) := evAssert K.P K.M (evA K.st x) t a ck
noncomputable def op_extract (t : Operand) (ix : Nat) (K : Ctx) : T (AV × Mem) := onTup (evA K.st t) fun l => (sel l ix).bind fun v => .ret (v, K.M)
noncomputable def op_call (c : Call) (K : Ctx) : T (AV × Mem) := evCall K.tt K.callF K.M K.st c
noncomputable def op_panic (x : Operand) (K : Ctx) : T (AV × Mem) := evPanic K.M (evA K.st x)
noncomputable def evOp (c : Ctx) (o : Op) : T (AV × Mem) :=
  (@Op.casesOn (fun _ => OpR) o
    op_move
    op_assign
    op_pick
    op_alloc
    op_box
    op_build
    op_buildSlice
    (fun _ _ _ _ _ => .fail)  -- insert
    op_load
    op_store
    (fun _ _ => .fail)  -- ready
    (fun _ _ => .fail)  -- waits
    op_nilCheck
    op_binOp
    op_unOp
    op_convert
    (fun _ _ _ => .fail)  -- sliceToArrayPointer
    op_makeInterface
    op_makeFunc
    op_makeMap
    (fun _ _ _ => .fail)  -- makeChan
    op_makeSlice
    op_slice
    op_fieldAddr
    op_field
    op_indexAddr
    op_index
    op_lookup
    op_mapUpdate
    (fun _ _ _ _ => .fail)  -- mapEntry
    (fun _ _ _ _ _ => .fail)  -- entryStore
    (fun _ _ _ => .fail)  -- range
    (fun _ _ _ => .fail)  -- next
    (fun _ _ => .fail)  -- entry
    op_typeAssert
    op_extract
    op_call
    (fun _ _ => .fail)  -- go
    (fun _ _ => .fail)  -- defer
    op_panic
    (fun _ _ _ => .fail)  -- send
    (fun _ _ _ _ => .fail)  -- recv
    (fun _ _ _ => .fail)
    ) c

/-! ## Code -/
inductive X where
  | normal | exit (id : Nat) | ret

noncomputable def putA (d : Option Tmp) (st : Tmps) (v : AV) : Tmps := @Option.rec Nat (fun _ => Tmps) st (fun d t => @Bool.rec (fun _ => AV) (st t) v (Nat.beq t d)) d
abbrev NextK := Tmps → Mem → T (Tmps × Mem)
def isBoolV : Value → Bool
  | .bool _ => true
  | _ => false
noncomputable def yC (x : AV) (f : Bool → T (Tmps × Mem)) (none : T (Tmps × Mem)) : T (Tmps × Mem) :=
  @AV.casesOn (fun _ => T (Tmps × Mem)) x (fun _ _ => none) f (fun _ => none) (fun v => .br (isBoolV v) .fail none)
    (fun _ _ _ => none) (fun _ _ _ _ => none) none (fun _ => none) (fun _ _ => none) (fun _ _ => none) (fun _ => none) (fun _ => none) .fail
noncomputable def yB (st : Tmps) (o : Oper) (f : Bool → T (Tmps × Mem)) (none : T (Tmps × Mem)) : T (Tmps × Mem) :=
  @Option.rec Nat (fun _ => T (Tmps × Mem)) .fail (fun d => yC (st d) f none) o.dst
noncomputable def guarded (all : List Oper) (st : Tmps) (M : Mem) (o : Oper) (ih : NextK) (go : Tmps → T (Tmps × Mem)) (g : Nat × Bool) : T (Tmps × Mem) :=
  @Option.rec Oper (fun _ => T (Tmps × Mem)) .fail (fun p => yB st p (fun b => .br (b == g.2) (go (putA p.dst st (.b g.2))) (ih (putA o.dst (putA p.dst st (.b (!g.2))) (.v undef)) M)) (ih (putA o.dst st (.v undef)) M)) (nth? all g.1)
noncomputable def evOps (P : Program) (tt : TT) (callF : FuncId → List AV → Mem → T (AV × Mem)) (all : List Oper) (l : List Oper) : NextK :=
  @List.rec Oper (fun _ => NextK) (fun st M => .ret (st, M)) (fun o _ ih st M =>
    @Option.rec (Nat × Bool) (fun _ => T (Tmps × Mem)) ((evOp ⟨P, tt, callF, M, st⟩ o.op).bind fun x => ih (putA o.dst st x.1) x.2)
      (guarded all st M o ih fun st => (evOp ⟨P, tt, callF, M, st⟩ o.op).bind fun x => ih (putA o.dst st x.1) x.2) o.guard) l

noncomputable def forceN {R : Type} (n : Nat) (k : Nat → R) : R := @Nat.casesOn (fun _ => R) n (k 0) (fun m => k (Nat.succ m))
noncomputable def forceI {R : Type} (a : IntKind) (n : Int) (k : AV → R) : R := @Int.casesOn (fun _ => R) n (fun m => forceN m fun m => k (.i a (.ofNat m))) (fun m => forceN m fun m => k (.i a (.negSucc m)))
noncomputable def forceBL {R : Type} (l : List UInt8) : (List UInt8 → R) → R := @List.rec UInt8 (fun _ => (List UInt8 → R) → R) (fun k => k []) (fun x _ ih k => forceN x.toNat fun n => ih fun l => k (UInt8.ofNat n :: l)) l
noncomputable def forceS {R : Type} (s : ByteArray) (k : ByteArray → R) : R := forceBL s.data.toList fun l => k ⟨⟨l⟩⟩
noncomputable def forceA0 {R : Type} (x : AV) (k : AV → R) : R :=
  @AV.casesOn (fun _ => R) x (fun a n => forceI a n k) (fun b => @Bool.rec (fun _ => R) (k (.b false)) (k (.b true)) b) (fun s => forceS s fun s => k (.s s)) (fun v => k (.v v))
    (fun a b c => forceN a fun a => forceN b fun b => forceN c fun c => k (.ptr a b c)) (fun a b c d => forceN a fun a => forceN b fun b => k (.sl a b c d)) (k .e) (fun a => forceN a fun a => k (.mp a)) (fun a b => k (.fn a b)) (fun a b => k (.ifc a b)) (fun a => k (.agg a)) (fun a => k (.tup a)) (k .top)
noncomputable def forceL0 {R : Type} (l : List AV) : (List AV → R) → R := @List.rec AV (fun _ => (List AV → R) → R) (fun k => k []) (fun x _ ih k => forceA0 x fun x => ih fun l => k (x :: l)) l
noncomputable def forceA {R : Type} (x : AV) (k : AV → R) : R :=
  @AV.casesOn (fun _ => R) x (fun a n => forceA0 (.i a n) k) (fun b => forceA0 (.b b) k) (fun s => forceA0 (.s s) k) (fun v => k (.v v))
    (fun a b c => forceA0 (.ptr a b c) k) (fun a b c d => forceA0 (.sl a b c d) k) (k .e) (fun a => forceA0 (.mp a) k) (fun a b => forceL0 b fun b => k (.fn a b)) (fun a b => forceA0 b fun b => k (.ifc a b)) (fun a => forceL0 a fun a => k (.agg a)) (fun a => forceL0 a fun a => k (.tup a)) (k .top)
noncomputable def forceL {R : Type} (l : List AV) : (List AV → R) → R := @List.rec AV (fun _ => (List AV → R) → R) (fun k => k []) (fun x _ ih k => forceA x fun x => ih fun l => k (x :: l)) l
noncomputable def forceNs {R : Type} (l : List Nat) : (List Nat → R) → R := @List.rec Nat (fun _ => (List Nat → R) → R) (fun k => k []) (fun x _ ih k => forceN x fun x => ih fun l => k (x :: l)) l
noncomputable def forceO {R : Type} (o : AObj) (k : AObj → R) : R :=
  @AObj.casesOn (fun _ => R) o (k .dead) (fun a n c => k (.ro a n c)) (fun e rs l => forceL l fun l => k (.own e rs l)) (fun e n c => k (.vec e n c)) (fun es c => k (.map es c))
noncomputable def forceOs {R : Type} (f : Nat → AObj) (l : List Nat) : (List AObj → R) → R := @List.rec Nat (fun _ => (List AObj → R) → R) (fun k => k []) (fun x _ ih k => forceO (f x) fun x => ih fun l => k (x :: l)) l
noncomputable def mapL {α β : Type} (f : α → β) (l : List α) : List β := @List.rec α (fun _ => List β) [] (fun x _ ih => f x :: ih) l
noncomputable def catL {α β : Type} (f : α → List β) (l : List α) : List β := @List.rec α (fun _ => List β) [] (fun x _ ih => f x ++ ih) l

/-! ### New objects under new numbers -/
abbrev Rho := Nat → Option Nat
noncomputable def onId (x : Option Nat) (f : Nat → AV) : AV := @Option.rec Nat (fun _ => AV) .top f x
noncomputable def ren0 (ρ : Rho) (x : AV) : AV :=
  @AV.casesOn (fun _ => AV) x .i .b .s .v (fun id r c => onId (ρ id) fun j => .ptr j r c) (fun id r n cap => onId (ρ id) fun j => .sl j r n cap) .e (fun id => onId (ρ id) .mp)
    (fun f l => @List.casesOn AV (fun _ => AV) l (.fn f []) (fun _ _ => .top)) (fun _ _ => .top) (fun _ => .top) (fun _ => .top) .top
noncomputable def ren1 (ρ : Rho) (x : AV) : AV :=
  @AV.casesOn (fun _ => AV) x .i .b .s .v (fun id r c => onId (ρ id) fun j => .ptr j r c) (fun id r n cap => onId (ρ id) fun j => .sl j r n cap) .e (fun id => onId (ρ id) .mp)
    (fun f l => .fn f (mapL (ren0 ρ) l)) (fun t x => .ifc t (ren0 ρ x)) (fun l => .agg (mapL (ren0 ρ) l)) (fun l => .tup (mapL (ren0 ρ) l)) .top
noncomputable def renO (ρ : Rho) (o : AObj) : AObj := @AObj.casesOn (fun _ => AObj) o .dead .ro (fun e rs l => .own e rs (mapL (ren1 ρ) l)) .vec .map
noncomputable def ids0 (x : AV) : List Nat :=
  @AV.casesOn (fun _ => List Nat) x (fun _ _ => []) (fun _ => []) (fun _ => []) (fun _ => []) (fun id _ _ => [id]) (fun id _ _ _ => [id]) [] (fun id => [id]) (fun _ _ => []) (fun _ _ => []) (fun _ => []) (fun _ => []) []
noncomputable def ids1 (x : AV) : List Nat :=
  @AV.casesOn (fun _ => List Nat) x (fun _ _ => []) (fun _ => []) (fun _ => []) (fun _ => []) (fun id _ _ => [id]) (fun id _ _ _ => [id]) [] (fun id => [id]) (fun _ l => catL ids0 l) (fun _ x => ids0 x) (fun l => catL ids0 l) (fun l => catL ids0 l) []
noncomputable def idsO (o : AObj) : List Nat := @AObj.casesOn (fun _ => List Nat) o [] (fun _ _ _ => []) (fun _ _ l => catL ids1 l) (fun _ _ _ => []) (fun _ _ => [])
noncomputable def memN (x : Nat) (l : List Nat) : Bool := @List.rec Nat (fun _ => Bool) false (fun y _ ih => bif2 (Nat.beq y x) true ih) l
noncomputable def walk (M : Mem) (fuel : Nat) : List Nat → List Nat → List Nat :=
  @Nat.rec (fun _ => List Nat → List Nat → List Nat) (fun _ seen => seen) (fun _ ih todo seen =>
    @List.casesOn Nat (fun _ => List Nat) todo seen fun id rest => bif2 (memN id seen) (ih rest seen) (ih (rest ++ idsO (M.get id)) (seen ++ [id]))) fuel
noncomputable def newOnly (base : Nat) (l : List Nat) : List Nat := @List.rec Nat (fun _ => List Nat) [] (fun x _ ih => bif2 (Nat.ble base x) (x :: ih) ih) l
noncomputable def liveOk (base : Nat) (l : List Nat) : Bool := @List.rec Nat (fun _ => Bool) true (fun x l ih => bif2 (Nat.ble base x) (bif2 (memN x l) false ih) false) l
noncomputable def idxOf (l : List Nat) (id : Nat) : Nat → Option Nat := @List.rec Nat (fun _ => Nat → Option Nat) (fun _ => none) (fun x _ ih b => bif2 (Nat.beq x id) (some b) (ih (b + 1))) l
noncomputable def rhoOf (base : Nat) (live : List Nat) : Rho := fun id => bif2 (Nat.blt id base) (some id) (idxOf live id base)
noncomputable def nthO (l : List AObj) (i : Nat) : AObj := @Option.rec AObj (fun _ => AObj) .dead (fun o => o) (nth? l i)
noncomputable def laid (base lock : Nat) (g : Nat → AObj) (objs : List AObj) : Mem := ⟨base + objs.length, lock, fun j => bif2 (Nat.blt j base) (g j) (nthO objs (j - base))⟩
noncomputable def compact {β : Type} (base : Nat) (vals : List AV) (M : Mem) (k : (AV → AV) → Mem → T β) : T β :=
  bif2 (Nat.beq M.next base) (k (fun x => x) M)
    (forceNs (newOnly base (walk M 200 (catL ids1 vals) [])) fun live =>
      .br (bif2 (Nat.ble M.lock base) (liveOk base live) false) (forceOs (fun id => renO (rhoOf base live) (M.get id)) live fun objs => k (ren1 (rhoOf base live)) (laid base M.lock (fun j => renO (rhoOf base live) (M.get j)) objs)) .fail)
noncomputable def compactU {β : Type} (base : Nat) (vals : List AV) (M : Mem) (k : (AV → AV) → Mem → T β) : T β :=
  bif2 (Nat.beq M.next base) (k (fun x => x) M)
    (.br (bif2 (Nat.ble M.lock base) (liveOk base (newOnly base (walk M 200 (catL ids1 vals) []))) false)
      (k (ren1 (rhoOf base (newOnly base (walk M 200 (catL ids1 vals) [])))) (laid base M.lock (fun j => renO (rhoOf base (newOnly base (walk M 200 (catL ids1 vals) []))) (M.get j)) (mapL (fun id => renO (rhoOf base (newOnly base (walk M 200 (catL ids1 vals) []))) (M.get id)) (newOnly base (walk M 200 (catL ids1 vals) []))))) .fail)
/-- A memory told by its list of objects; slots told by a list of values. -/
noncomputable def iota (n : Nat) : List Nat := @Nat.rec (fun _ => List Nat) [] (fun n ih => ih ++ [n]) n
noncomputable def memL (lock : Nat) (l : List AObj) : Mem := ⟨l.length, lock, nthO l⟩
noncomputable def sealM (M : Mem) : Mem := memL M.lock (mapL M.get (iota M.next))
/-! ### A region that draws its order: its first operations write nothing that is there, and each is told what it needs alone -/
def bindsE (e : Edge) : Bool := Region.binds .any e
noncomputable def ancOf (mk : Nat → Nat) (es : List Edge) : Nat := @List.rec Edge (fun _ => Nat) 0 (fun e _ ih => bif2 (bindsE e) (Nat.lor (Nat.lor (mk e.on) (Nat.shiftLeft 1 e.on)) ih) ih) es
/-- The operations that stand ahead of each one. -/
noncomputable def masks (l : List Oper) : Nat → (Nat → Nat) → (Nat → Nat) :=
  @List.rec Oper (fun _ => Nat → (Nat → Nat) → (Nat → Nat)) (fun _ mk => mk) (fun o _ ih j mk => ih (j + 1) (upd mk j (ancOf mk o.after.toList))) l
/-! What has no memory, and is asked for by nobody who doesn't wait for it. -/
def pureK (o : Op) : Bool := match o with
  | .move _ => true
  | .assign _ => true
  | .binOp .. => true
  | .extract .. => true
  | .pick .. => true
  | _ => false
def freeU (all : List Oper) (u : Nat) (o : Oper) : Bool := (all.drop (u + 1)).all fun p => p.after.toList.any (fun e => bindsE e && Nat.beq e.on u) || Oper.apart all.toArray o p
noncomputable def pv0 (all : List Oper) (u : Nat) (o : Oper) : Bool := pureK o.op && freeU all u o
noncomputable def lateS (all : List Oper) (mki j : Nat) (l : List Oper) : Nat → Bool :=
  @List.rec Oper (fun _ => Nat → Bool) (fun _ => true) (fun o _ ih u => bif2 (Nat.blt u j) (bif2 (Nat.testBit mki u) (ih (u + 1)) (bif2 (pv0 all u o) (ih (u + 1)) false)) true) l
/-- From where on each stands behind all ahead of it, or what is no matter. -/
noncomputable def split (all : List Oper) (mk : Nat → Nat) (l : List Oper) : Nat → Nat → Nat :=
  @List.rec Oper (fun _ => Nat → Nat → Nat) (fun _ m => m) (fun o _ ih j m => ih (j + 1) (bif2 (Nat.beq (mk j) (Nat.sub (Nat.pow 2 j) 1)) m (bif2 (pv0 all j o) (j + 1) (bif2 (lateS all (mk j) j all 0) m (j + 1))))) l
noncomputable def edgesOk (l : List Oper) : Nat → Bool :=
  @List.rec Oper (fun _ => Nat → Bool) (fun _ => true) (fun o _ ih j => o.after.toList.all (fun e => !bindsE e || Nat.blt e.on j) && ih (j + 1)) l
def dstsOk : List Oper → Bool
  | [] => true
  | o :: l => (match o.dst with | some d => l.all (fun p => !(p.dst == some d)) | none => true) && dstsOk l
abbrev DR := Nat → AV × Mem
noncomputable def memA (M0 : Mem) (big : Nat) (R : DR) (anc j : Nat) : Mem :=
  ⟨M0.next + j * big, M0.next + j * big, fun id => bif2 (Nat.blt id M0.next) (M0.get id) (bif2 (Nat.testBit anc (Nat.div (Nat.sub id M0.next) big)) ((R (Nat.div (Nat.sub id M0.next) big)).2.get id) .dead)⟩
noncomputable def stA (R : DR) (st0 : Tmps) (anc : Nat) (l : List Oper) : Nat → Tmps :=
  @List.rec Oper (fun _ => Nat → Tmps) (fun _ => st0) (fun o _ ih k => putA o.dst (ih (k + 1)) (bif2 (Nat.testBit anc k) (R k).1 .top)) l
/-- What stands behind an operation has not been written yet. -/
def effO (o : Oper) : Oper := { o with dst := none }
noncomputable def effL (mk : Nat → Nat) (j : Nat) (l : List Oper) : Nat → List Oper := @List.rec Oper (fun _ => Nat → List Oper) (fun _ => []) (fun o _ ih k => bif2 (Nat.testBit (mk k) j) (effO o) o :: ih (k + 1)) l
namespace T
noncomputable def nopan {α : Type} (x : T α) : T α := @T.rec α (fun _ => T α) (fun a => .ret a) (fun b _ _ t e => .br b t e) (fun _ _ => .fail) (fun b _ t => .ck b t) .fail x
end T
noncomputable def yD (x : AV) (f : Bool → T (AV × Mem)) (none : T (AV × Mem)) : T (AV × Mem) :=
  @AV.casesOn (fun _ => T (AV × Mem)) x (fun _ _ => none) f (fun _ => none) (fun v => .br (isBoolV v) .fail none)
    (fun _ _ _ => none) (fun _ _ _ _ => none) none (fun _ => none) (fun _ _ => none) (fun _ _ => none) (fun _ => none) (fun _ => none) .fail
noncomputable def drawOp (P : Program) (tt : TT) (callF : FuncId → List AV → Mem → T (AV × Mem)) (all : List Oper) (A : Mem) (st : Tmps) (o : Oper) : T (AV × Mem) :=
  @Option.rec (Nat × Bool) (fun _ => T (AV × Mem)) (T.nopan (evOp ⟨P, tt, callF, A, st⟩ o.op)) (fun g =>
    onO (nth? all g.1) fun p => onO p.dst fun d => yD (st d) (fun b => .br (b == g.2) (T.nopan (evOp ⟨P, tt, callF, A, st⟩ o.op)) (.ret (.v undef, A))) (.ret (.v undef, A))) o.guard
noncomputable def isIA (x : AV) : Bool :=
  @AV.casesOn (fun _ => Bool) x (fun _ _ => true) (fun _ => true) (fun _ => true) (fun _ => false) (fun _ _ _ => false) (fun _ _ _ _ => false) false (fun _ => false) (fun _ _ => false) (fun _ _ => false) (fun _ => false) (fun _ => false) false
/-- What is told by slots alone. -/
noncomputable def pureV (st : Tmps) (o : Op) : Bool := match o with
  | .move _ => true
  | .assign _ => true
  | .binOp _ _ x y _ => isIA (evA st x) && isIA (evA st y)
  | .extract .. => true
  | .pick .. => true
  | _ => false
noncomputable def yE {α : Type} (x : AV) (f : Bool → T α) (none : T α) : T α :=
  @AV.casesOn (fun _ => T α) x (fun _ _ => none) f (fun _ => none) (fun v => .br (isBoolV v) .fail none)
    (fun _ _ _ => none) (fun _ _ _ _ => none) none (fun _ => none) (fun _ _ => none) (fun _ _ => none) (fun _ => none) (fun _ => none) .fail
/-- What an operation yields, and whether it is told by slots alone. -/
noncomputable def drawOpF (P : Program) (tt : TT) (callF : FuncId → List AV → Mem → T (AV × Mem)) (all : List Oper) (A : Mem) (st : Tmps) (o : Oper) : T ((AV × Mem) × Bool) :=
  @Option.rec (Nat × Bool) (fun _ => T ((AV × Mem) × Bool)) ((T.nopan (evOp ⟨P, tt, callF, A, st⟩ o.op)).bind fun x => .ret (x, pureV st o.op)) (fun g =>
    onO (nth? all g.1) fun p => onO p.dst fun d => yE (st d) (fun b => .br (b == g.2) ((T.nopan (evOp ⟨P, tt, callF, A, st⟩ o.op)).bind fun x => .ret (x, pureV st o.op)) (.ret ((.v undef, A), true))) (.ret ((.v undef, A), true))) o.guard
/-! Stores to what is there, ahead of others that do not look at those cells. -/
abbrev GS := Nat → Option (Nat × Nat × List AV)
noncomputable def topsL (n : Nat) : List AV := @Nat.rec (fun _ => List AV) [] (fun _ ih => .top :: ih) n
noncomputable def putO (l : List AV) (off : Nat) (o : AObj) : AObj := @AObj.casesOn (fun _ => AObj) o .dead (fun a b c => .ro a b c) (fun e rs cells => .own e rs (setAt l cells off)) (fun a b c => .vec a b c) (fun a b => .map a b)
noncomputable def topO (tg : List (Nat × Nat × Nat)) (id : Nat) (o : AObj) : AObj := @List.rec (Nat × Nat × Nat) (fun _ => AObj) o (fun t _ ih => bif2 (Nat.beq t.1 id) (putO (topsL t.2.2) t.2.1 ih) ih) tg
noncomputable def topM (tg : List (Nat × Nat × Nat)) (M : Mem) : Mem := @List.casesOn (Nat × Nat × Nat) (fun _ => Mem) tg M (fun _ _ => ⟨M.next, M.lock, fun id => topO tg id (M.get id)⟩)
noncomputable def findD (d : Nat) (l : List Oper) : Option Op := @List.rec Oper (fun _ => Option Op) none (fun o _ ih => @Option.rec Nat (fun _ => Option Op) ih (fun e => bif2 (Nat.beq e d) (some o.op) ih) o.dst) l
noncomputable def fOff (u : Und) (f : Nat) : Nat := @Und.casesOn (fun _ => Nat) u (fun _ => 0) (fun _ _ => 0) (fun fs => @Option.rec (Nat × TypeId × Nat) (fun _ => Nat) 0 (fun x => x.1) (nth? fs f)) 0 0 0 0
noncomputable def shiftP (x : AV) (k : Nat) : AV := match x with
  | .ptr id r c => .ptr id r (c + k)
  | _ => .top
noncomputable def idxP (es : Nat) (arr : Bool) (a i : AV) : AV := match i with
  | .i _ n => match a with
    | .ptr id r c => bif2 arr (.ptr id r (c + n.toNat * es)) .top
    | .sl id r _ _ => bif2 arr .top (.ptr id (r + n.toNat) 0)
    | _ => .top
  | _ => .top
noncomputable def idxU (tt : TT) (u : Und) (a i : AV) : AV := @Und.casesOn (fun _ => AV) u (fun el => idxP (tt el).size false a i) (fun _ el => idxP (tt el).size true a i) (fun _ => .top) .top .top .top .top
noncomputable def binG (op : BinOp) (a b : AV) : AV := match a with
  | .i k x => match b with
    | .i _ y => match op with
      | .add => .i k (wr k (x + y))
      | .sub => .i k (wr k (x - y))
      | .mul => .i k (wr k (x * y))
      | _ => .top
    | _ => .top
  | _ => .top
noncomputable def addrT (tt : TT) (st0 : Tmps) (all : List Oper) (fuel : Nat) : Operand → AV :=
  @Nat.rec (fun _ => Operand → AV) (fun _ => .top) (fun _ ih x => match x with
    | .tmp d => @Option.rec Op (fun _ => AV) (st0 d) (fun o => match o with
      | .fieldAddr t y f => shiftP (ih y) (fOff (tt t).u f)
      | .move y => ih y
      | .nilCheck y => ih y
      | .indexAddr t y ix => idxU tt (tt t).u (ih y) (ih ix)
      | .binOp op _ y z _ => binG op (ih y) (ih z)
      | .assign y => ih y
      | _ => .top) (findD d all)
    | .const v => evA st0 (.const v)
    | _ => .top) fuel
noncomputable def tgOf (M0 : Mem) (x : AV) (sz : Nat) (rest : List (Nat × Nat × Nat)) : List (Nat × Nat × Nat) := match x with
  | .ptr id r c => match M0.get id with
    | .own _ rs _ => (id, r * rs + c, sz) :: rest
    | _ => rest
  | _ => rest
noncomputable def isStore (o : Oper) : Option (TypeId × Operand × Operand) := match o.op with
  | .store t a x => @Option.rec (Nat × Bool) (fun _ => Option (TypeId × Operand × Operand)) (@Option.rec Nat (fun _ => Option (TypeId × Operand × Operand)) (some (t, a, x)) (fun _ => none) o.dst) (fun _ => none) o.guard
  | _ => none
noncomputable def preT (tt : TT) (M0 : Mem) (st0 : Tmps) (all : List Oper) (l : List Oper) : List (Nat × Nat × Nat) :=
  @List.rec Oper (fun _ => List (Nat × Nat × Nat)) [] (fun o _ ih => @Option.rec (TypeId × Operand × Operand) (fun _ => List (Nat × Nat × Nat)) ih (fun s => tgOf M0 (addrT tt st0 all 9 s.2.1) (tt s.1).size ih) (isStore o)) l
/-- What a place in this region goes back to: the slot of what was laid in it. -/
noncomputable def rootT (tt : TT) (all : List Oper) (fuel : Nat) : Operand → Option (Nat × Nat) :=
  @Nat.rec (fun _ => Operand → Option (Nat × Nat)) (fun _ => none) (fun _ ih x => match x with
    | .tmp d => @Option.rec Op (fun _ => Option (Nat × Nat)) none (fun o => match o with
      | .fieldAddr t y f => @Option.rec (Nat × Nat) (fun _ => Option (Nat × Nat)) none (fun p => some (p.1, p.2 + fOff (tt t).u f)) (ih y)
      | .move y => ih y
      | .alloc _ => some (d, 0)
      | _ => none) (findD d all)
    | _ => none) fuel
noncomputable def newT (tt : TT) (all : List Oper) (dst : Option Nat) (l : List Oper) : List (Nat × Nat) :=
  @List.rec Oper (fun _ => List (Nat × Nat)) [] (fun o _ ih => @Option.rec (TypeId × Operand × Operand) (fun _ => List (Nat × Nat)) ih
    (fun s => @Option.rec (Nat × Nat) (fun _ => List (Nat × Nat)) ih (fun p => @Option.rec Nat (fun _ => List (Nat × Nat)) ih (fun d => bif2 (Nat.beq d p.1) ((p.2, (tt s.1).size) :: ih) ih) dst) (rootT tt all 5 s.2.1)) (isStore o)) l
noncomputable def tgN (id : Nat) (l : List (Nat × Nat)) : List (Nat × Nat × Nat) := @List.rec (Nat × Nat) (fun _ => List (Nat × Nat × Nat)) [] (fun p _ ih => (id, p.1, p.2) :: ih) l
noncomputable def topNew (l : List (Nat × Nat)) (x : AV × Mem) : AV × Mem := @List.casesOn (Nat × Nat) (fun _ => AV × Mem) l x (fun p l => match x.1 with
  | .ptr id _ _ => (x.1, topM (tgN id (p :: l)) x.2)
  | _ => x)
def isTopA : AV → Bool
  | .top => true
  | _ => false
noncomputable def allTop (l : List AV) : Bool := @List.rec AV (fun _ => Bool) true (fun x _ ih => bif2 (isTopA x) ih false) l
noncomputable def noClash (G : GS) (id off sz : Nat) (j : Nat) : Bool := @Nat.rec (fun _ => Bool) true (fun k ih => bif2 (@Option.rec (Nat × Nat × List AV) (fun _ => Bool) true (fun g => bif2 (Nat.beq g.1 id) (bif2 (Nat.ble (off + sz) g.2.1) true (Nat.ble (g.2.1 + g.2.2.length) off)) true) (G k)) ih false) j
noncomputable def fltOk (M0 : Mem) (G : GS) (j id off sz : Nat) (l cells : List AV) : Bool :=
  bif2 (Nat.ble M0.lock id) (bif2 (allLeaf l) (bif2 (Nat.beq l.length sz) (bif2 (Nat.ble (off + sz) cells.length) (bif2 (allTop ((cells.drop off).take sz)) (noClash G id off sz j) false) false) false) false) false
noncomputable def fltGo {β : Type} (tt : TT) (M0 A : Mem) (st : Tmps) (G : GS) (j : Nat) (t : TypeId) (a x : Operand) (k : Nat × Nat × List AV → T β) : T β :=
  onPtr (evA st a) fun id r c => @AObj.casesOn (fun _ => T β) (A.get id) .fail (fun _ _ _ => .fail) (fun _ rs cells =>
    .ck (fltOk M0 G j id (r * rs + c) (tt t).size (evA st x).cells cells) (k (id, r * rs + c, (evA st x).cells))) (fun _ _ _ => .fail) (fun _ _ => .fail)
abbrev DG := DR × (Nat → Bool) × GS
noncomputable def drawGo (P : Program) (tt : TT) (callF : FuncId → List AV → Mem → T (AV × Mem)) (all : List Oper) (mk : Nat → Nat) (M0 : Mem) (st0 : Tmps) (big : Nat) (nt : Option Nat → List (Nat × Nat)) (l : List Oper) : Nat → DR → (Nat → Bool) → GS → T DG :=
  @List.rec Oper (fun _ => Nat → DR → (Nat → Bool) → GS → T DG) (fun _ R F G => .ret (R, F, G)) (fun o _ ih j R F G =>
    @Option.rec (TypeId × Operand × Operand) (fun _ => T DG)
      ((drawOpF P tt callF all (memA M0 big R (mk j) j) (stA R st0 (mk j) (effL mk j all 0) 0) o).bind fun x =>
        .ck (Nat.ble x.1.2.next (M0.next + (j + 1) * big)) (ih (j + 1) (upd R j (topNew (nt o.dst) x.1)) (upd F j x.2) G))
      (fun s => onK (tt s.1).u
        (fltGo tt M0 (memA M0 big R (mk j) j) (stA R st0 (mk j) (effL mk j all 0) 0) G j s.1 s.2.1 s.2.2 fun g => ih (j + 1) (upd R j (.v undef, memA M0 big R (mk j) j)) (upd F j false) (upd G j (some g)))
        (fltGo tt M0 (memA M0 big R (mk j) j) (stA R st0 (mk j) (effL mk j all 0) 0) G j s.1 s.2.1 s.2.2 fun g => ih (j + 1) (upd R j (.v undef, memA M0 big R (mk j) j)) (upd F j false) (upd G j (some g))))
      (isStore o)) l
noncomputable def anyG (G : GS) (m : Nat) : Bool := @Nat.rec (fun _ => Bool) false (fun k ih => @Option.rec (Nat × Nat × List AV) (fun _ => Bool) ih (fun _ => true) (G k)) m
noncomputable def finO (G : GS) (m id : Nat) (o : AObj) : AObj := @Nat.rec (fun _ => AObj) o (fun k ih => @Option.rec (Nat × Nat × List AV) (fun _ => AObj) ih (fun g => bif2 (Nat.beq g.1 id) (putO g.2.2 g.2.1 ih) ih) (G k)) m
noncomputable def gVals (G : GS) (m : Nat) : List AV := @Nat.rec (fun _ => List AV) [] (fun k ih => @Option.rec (Nat × Nat × List AV) (fun _ => List AV) ih (fun g => ih ++ g.2.2) (G k)) m
noncomputable def drawEnd (P : Program) (tt : TT) (callF : FuncId → List AV → Mem → T (AV × Mem)) (all : List Oper) (M0 : Mem) (st0 : Tmps) (big m : Nat) (R : DR) (G : GS) : T (Tmps × Mem) :=
  compactU M0.next (bif2 (anyG G m) (mapL (fun k => (R k).1) (iota m) ++ gVals G m) (mapL (fun k => (R k).1) (iota m)))
    ⟨M0.next + m * big, M0.lock, bif2 (anyG G m) (fun id => finO G m id ((memA M0 big R (Nat.sub (Nat.pow 2 m) 1) 0).get id)) (memA M0 big R (Nat.sub (Nat.pow 2 m) 1) 0).get⟩ fun f M =>
    evOps P tt callF all (all.drop m) (stA (fun k => (f (R k).1, M0)) st0 (Nat.sub (Nat.pow 2 m) 1) (all.take m) 0) (sealM M)
noncomputable def lateV (all : List Oper) (mk : Nat → Nat) (F : Nat → Bool) (m i : Nat) (l : List Oper) : Nat → Bool :=
  @List.rec Oper (fun _ => Nat → Bool) (fun _ => true) (fun o _ ih u => bif2 (Nat.blt u i) (bif2 (Nat.testBit (mk i) u) (ih (u + 1)) (bif2 (Nat.blt u m && (pv0 all u o && F u)) (ih (u + 1)) false)) true) l
noncomputable def lateAll (all : List Oper) (mk : Nat → Nat) (F : Nat → Bool) (m : Nat) (l : List Oper) : Nat → Bool :=
  @List.rec Oper (fun _ => Nat → Bool) (fun _ => true) (fun _ _ ih i => bif2 (lateV all mk F m i all 0) (ih (i + 1)) false) l
def noSel (l : List Oper) : Bool := l.all fun o => match o.op with | .select .. => false | _ => true
noncomputable def masksK {β : Type} (l : List Oper) : Nat → (Nat → Nat) → ((Nat → Nat) → T β) → T β :=
  @List.rec Oper (fun _ => Nat → (Nat → Nat) → ((Nat → Nat) → T β) → T β) (fun _ mk k => k mk) (fun o _ ih j mk k => forceN (ancOf mk o.after.toList) fun m => ih (j + 1) (upd mk j m) k) l
noncomputable def evDraw (P : Program) (tt : TT) (callF : FuncId → List AV → Mem → T (AV × Mem)) (big : Nat) (all : List Oper) (st0 : Tmps) (M0 : Mem) : T (Tmps × Mem) :=
  .ck (edgesOk all 0 && (dstsOk all && (Nat.blt 0 big && noSel all))) (masksK all 0 (fun _ => 0) fun mk => forceN (split all mk all 0 0) fun m => (drawGo P tt callF all mk (topM (preT tt M0 st0 all (all.take m)) M0) st0 big (fun d => newT tt all d (all.take m)) (all.take m) 0 (fun _ => (.top, M0)) (fun _ => false) (fun _ => none)).bind
    fun R => .ck (Nat.ble m all.length && lateAll all mk R.2.1 m (all.drop m) m) (drawEnd P tt callF all (topM (preT tt M0 st0 all (all.take m)) M0) st0 big m R.1 R.2.2))

/-! ### A region that draws its order: what writes nothing is told at each time that is left to it, and tells the same -/
def mvK (o : Oper) : Bool := match o.op with
  | .store _ _ _ => false
  | .alloc _ => false
  | .box _ _ => false
  | .buildSlice _ _ _ => false
  | .makeSlice _ _ _ => false
  | .makeMap _ _ => false
  | .mapUpdate _ _ _ _ => false
  | .convert _ _ _ => false
  | .call c => match c.callee with
    | .builtin .len => true
    | .builtin .min => true
    | .builtin .max => true
    | _ => false
  | _ => true
noncomputable def eqO (a b : Option Nat) : Bool := match a with
  | none => match b with
    | none => true
    | some _ => false
  | some x => match b with
    | none => false
    | some y => Nat.beq x y
def eqVal (a b : Value) : Bool := match a with
  | .slice none 0 0 => match b with
    | .slice none 0 0 => true
    | _ => false
  | .tuple x => match b with
    | .tuple y => Nat.beq x.size 0 && Nat.beq y.size 0
    | _ => false
  | .agg x => match b with
    | .agg y => Nat.beq x.size 0 && Nat.beq y.size 0
    | _ => false
  | .pointer none => match b with
    | .pointer none => true
    | _ => false
  | .float k n => match b with
    | .float k' n' => decide (k = k') && Nat.beq n n'
    | _ => false
  | .nilIface => match b with
    | .nilIface => true
    | _ => false
  | _ => false
noncomputable def eqA0 (a b : AV) : Bool := match a with
  | .i k n => match b with
    | .i k' n' => decide (k = k') && decide (n = n')
    | _ => false
  | .b x => match b with
    | .b y => x == y
    | _ => false
  | .s x => match b with
    | .s y => decide (x.data.toList = y.data.toList)
    | _ => false
  | .v x => match b with
    | .v y => eqVal x y
    | _ => false
  | .ptr i r c => match b with
    | .ptr i' r' c' => Nat.beq i i' && (Nat.beq r r' && Nat.beq c c')
    | _ => false
  | .sl i r n c => match b with
    | .sl i' r' n' c' => Nat.beq i i' && (Nat.beq r r' && (Nat.beq n n' && eqO c c'))
    | _ => false
  | .e => match b with
    | .e => true
    | _ => false
  | .mp i => match b with
    | .mp j => Nat.beq i j
    | _ => false
  | _ => false
noncomputable def eqL0 (l : List AV) : List AV → Bool := @List.rec AV (fun _ => List AV → Bool) (fun m => @List.casesOn AV (fun _ => Bool) m true (fun _ _ => false)) (fun x _ ih m => @List.casesOn AV (fun _ => Bool) m false (fun y m => bif2 (eqA0 x y) (ih m) false)) l
noncomputable def eqA1 (a b : AV) : Bool := match a with
  | .agg l => match b with
    | .agg l' => eqL0 l l'
    | _ => false
  | _ => eqA0 a b
noncomputable def eqLA (l : List AV) : List AV → Bool := @List.rec AV (fun _ => List AV → Bool) (fun m => @List.casesOn AV (fun _ => Bool) m true (fun _ _ => false)) (fun x _ ih m => @List.casesOn AV (fun _ => Bool) m false (fun y m => bif2 (eqA1 x y) (ih m) false)) l
noncomputable def eqAV (a b : AV) : Bool := match a with
  | .fn (.func f) l => match b with
    | .fn (.func f') l' => Nat.beq f f' && eqL0 l l'
    | _ => false
  | .tup l => match b with
    | .tup l' => eqLA l l'
    | _ => false
  | .agg l => match b with
    | .agg l' => eqL0 l l'
    | _ => false
  | _ => eqA0 a b
noncomputable def okV0 (n : Nat) (a : AV) : Bool := match a with
  | .i _ _ => true
  | .b _ => true
  | .s _ => true
  | .v _ => true
  | .ptr i _ _ => Nat.blt i n
  | .sl i _ _ _ => Nat.blt i n
  | .mp i => Nat.blt i n
  | .e => true
  | _ => false
noncomputable def okVL (n : Nat) (l : List AV) : Bool := @List.rec AV (fun _ => Bool) true (fun x _ ih => bif2 (okV0 n x) ih false) l
noncomputable def okV1 (n : Nat) (a : AV) : Bool := match a with
  | .agg l => okVL n l
  | _ => okV0 n a
noncomputable def okVLA (n : Nat) (l : List AV) : Bool := @List.rec AV (fun _ => Bool) true (fun x _ ih => bif2 (okV1 n x) ih false) l
noncomputable def okV (n : Nat) (a : AV) : Bool := match a with
  | .fn _ l => okVL n l
  | .tup l => okVLA n l
  | .agg l => okVL n l
  | _ => okV0 n a
/-- In the order of the text: a guess at what each one yields. -/
noncomputable def gsD (P : Program) (tt : TT) (callF : FuncId → List AV → Mem → T (AV × Mem)) (all : List Oper) (mk : Nat → Nat) (st0 : Tmps) (l : List Oper) : Nat → Mem → DR → T DR :=
  @List.rec Oper (fun _ => Nat → Mem → DR → T DR) (fun _ _ V => .ret V) (fun o _ ih j M V => (drawOp P tt callF all M (stA V st0 (mk j) (effL mk j all 0) 0) o).bind fun x => ih (j + 1) x.2 (upd V j (x.1, x.2))) l
/-- May it be told when just those that write ahead of b are done? -/
noncomputable def inW (mk : Nat → Nat) (b j : Nat) (l : List Oper) : Nat → Bool :=
  @List.rec Oper (fun _ => Nat → Bool) (fun _ => true) (fun o _ ih i => bif2 (mvK o) (ih (i + 1)) (bif2 (Nat.blt i b) (bif2 (Nat.testBit (mk i) j) false (ih (i + 1))) (bif2 (Nat.testBit (mk j) i) false (ih (i + 1))))) l
noncomputable def lockAll (M : Mem) : Mem := ⟨M.next, M.next, M.get⟩
noncomputable def stageD (P : Program) (tt : TT) (callF : FuncId → List AV → Mem → T (AV × Mem)) (all : List Oper) (mk : Nat → Nat) (st0 : Tmps) (V : DR) (b : Nat) (M : Mem) (l : List Oper) : Nat → T Bool :=
  @List.rec Oper (fun _ => Nat → T Bool) (fun _ => .ret true) (fun o _ ih j => bif2 (mvK o && inW mk b j all 0) ((drawOp P tt callF all (lockAll M) (stA V st0 (mk j) (effL mk j all 0) 0) o).bind fun x => .ck (eqAV x.1 (V j).1 && okV M.next x.1) (ih (j + 1))) (ih (j + 1))) l
/-- Those that write stand in one order. -/
noncomputable def totD (mk : Nat → Nat) (j : Nat) (l : List Oper) : Nat → Bool :=
  @List.rec Oper (fun _ => Nat → Bool) (fun _ => true) (fun o _ ih i => bif2 (Nat.blt i j) (bif2 (mvK o) (ih (i + 1)) (bif2 (Nat.testBit (mk j) i) (ih (i + 1)) false)) true) l
noncomputable def chkD (P : Program) (tt : TT) (callF : FuncId → List AV → Mem → T (AV × Mem)) (all : List Oper) (mk : Nat → Nat) (st0 : Tmps) (V : DR) (l : List Oper) : Nat → Mem → T Mem :=
  @List.rec Oper (fun _ => Nat → Mem → T Mem) (fun b M => (stageD P tt callF all mk st0 V b M all 0).bind fun _ => .ret M)
    (fun o _ ih b M => bif2 (mvK o) (ih (b + 1) M)
      ((stageD P tt callF all mk st0 V b M all 0).bind fun _ => (drawOp P tt callF all M (stA V st0 (mk b) (effL mk b all 0) 0) o).bind fun x => .ck (eqAV x.1 (V b).1) (ih (b + 1) x.2))) l
noncomputable def totA (mk : Nat → Nat) (all l : List Oper) : Nat → Bool := @List.rec Oper (fun _ => Nat → Bool) (fun _ => true) (fun o _ ih j => bif2 (mvK o) (ih (j + 1)) (bif2 (totD mk j all 0) (ih (j + 1)) false)) l
noncomputable def evDraw2 (P : Program) (tt : TT) (callF : FuncId → List AV → Mem → T (AV × Mem)) (all : List Oper) (st0 : Tmps) (M0 : Mem) : T (Tmps × Mem) :=
  .ck (edgesOk all 0 && (dstsOk all && noSel all)) (masksK all 0 (fun _ => 0) fun mk => .ck (totA mk all all 0) ((gsD P tt callF all mk st0 all 0 M0 (fun _ => (.top, M0))).bind fun V =>
    (chkD P tt callF all mk st0 V all 0 M0).bind fun M => .ret (stA V st0 (Nat.sub (Nat.pow 2 all.length) 1) all 0, M)))
/-! ### Two operations that write, in either order -/
noncomputable def addE (i j : Nat) (l : List Oper) : Nat → List Oper := @List.rec Oper (fun _ => Nat → List Oper) (fun _ => []) (fun o _ ih k => bif2 (Nat.beq k i) { o with after := o.after.push ⟨j, .data⟩ } o :: ih (k + 1)) l
noncomputable def oneT {α : Type} (x : T α) : Option α := @T.rec α (fun _ => Option α) (fun a => some a) (fun b _ _ t e => @Bool.rec (fun _ => Option α) e t b) (fun _ _ => none) (fun b _ t => @Bool.rec (fun _ => Option α) none t b) none x
noncomputable def evDraw2V (P : Program) (tt : TT) (callF : FuncId → List AV → Mem → T (AV × Mem)) (all : List Oper) (st0 : Tmps) (M0 : Mem) : T (DR × Mem) :=
  .ck (edgesOk all 0 && (dstsOk all && noSel all)) (masksK all 0 (fun _ => 0) fun mk => .ck (totA mk all all 0) ((gsD P tt callF all mk st0 all 0 M0 (fun _ => (.top, M0))).bind fun V =>
    (chkD P tt callF all mk st0 V all 0 M0).bind fun M => .ret (V, M)))
noncomputable def eqCol (a b : Col) : Bool := match a with
  | .ci k l => match b with
    | .ci k' l' => decide (k = k') && decide (l = l')
    | _ => false
  | .cs l => match b with
    | .cs l' => decide (l.map (fun x => x.data.toList) = l'.map (fun x => x.data.toList))
    | _ => false
  | .cb l => match b with
    | .cb l' => decide (l = l')
    | _ => false
  | .cf k l => match b with
    | .cf k' l' => decide (k = k') && decide (l = l')
    | _ => false
  | .cl _ _ => false
noncomputable def eqCols (l : List Col) : List Col → Bool := @List.rec Col (fun _ => List Col → Bool) (fun m => @List.casesOn Col (fun _ => Bool) m true (fun _ _ => false)) (fun x _ ih m => @List.casesOn Col (fun _ => Bool) m false (fun y m => bif2 (eqCol x y) (ih m) false)) l
noncomputable def eqL1 (l : List AV) : List AV → Bool := @List.rec AV (fun _ => List AV → Bool) (fun m => @List.casesOn AV (fun _ => Bool) m true (fun _ _ => false)) (fun x _ ih m => @List.casesOn AV (fun _ => Bool) m false (fun y m => bif2 (eqAV x y) (ih m) false)) l
noncomputable def eqObj (a b : AObj) : Bool := match a with
  | .dead => match b with
    | .dead => true
    | _ => false
  | .own e r l => match b with
    | .own e' r' l' => Nat.beq e e' && (Nat.beq r r' && eqL1 l l')
    | _ => false
  | .vec e n l => match b with
    | .vec e' n' l' => Nat.beq e e' && (Nat.beq n n' && eqCols l l')
    | _ => false
  | _ => false
noncomputable def eqObjs (l : List AObj) : List AObj → Bool := @List.rec AObj (fun _ => List AObj → Bool) (fun m => @List.casesOn AObj (fun _ => Bool) m true (fun _ _ => false)) (fun x _ ih m => @List.casesOn AObj (fun _ => Bool) m false (fun y m => bif2 (eqObj x y) (ih m) false)) l
noncomputable def highL (lock : Nat) (M : Mem) : List AObj := mapL (fun k => M.get (lock + k)) (iota (Nat.sub M.next lock))
/-- What is read only is as it was. -/
noncomputable def canonM (M0 M : Mem) : Mem := laid M0.lock M0.lock M0.get (highL M0.lock M)
noncomputable def eqVs (V W : DR) (n : Nat) : Bool := @Nat.rec (fun _ => Bool) true (fun k ih => bif2 (eqAV (V k).1 (W k).1) ih false) n
def tellsV (o : Op) : Bool := match o with
  | .call _ => false
  | .go _ => false
  | .defer _ => false
  | .send _ _ => false
  | .recv _ _ _ => false
  | .select _ _ => false
  | _ => true
noncomputable def safeD (i j : Nat) (l : List Oper) : Nat → Bool := @List.rec Oper (fun _ => Nat → Bool) (fun _ => true) (fun o _ ih k => bif2 (Nat.beq k i) (ih (k + 1)) (bif2 (Nat.beq k j) (ih (k + 1)) (bif2 (tellsV o.op || o.after.toList.any (fun e => bindsE e && (Nat.beq e.on i || Nat.beq e.on j))) (ih (k + 1)) false))) l
/-- The operations with the i-th one behind the j-th. -/
noncomputable def pi1 (i j k : Nat) : Nat := bif2 (Nat.blt k i) k (bif2 (Nat.beq k i) j (bif2 (Nat.ble k j) (k - 1) k))
noncomputable def pi2 (i j q : Nat) : Nat := bif2 (Nat.blt q i) q (bif2 (Nat.blt q j) (q + 1) (bif2 (Nat.beq q j) i q))
noncomputable def renOp (i j : Nat) (o : Oper) : Oper := { o with after := o.after.map (fun e => { e with on := pi1 i j e.on }), guard := o.guard.map (fun g => (pi1 i j g.1, g.2)) }
noncomputable def permL (i j : Nat) (l : List Oper) : List Oper := mapL (fun q => @Option.rec Oper (fun _ => Oper) default (renOp i j) (nth? l (pi2 i j q))) (iota l.length)
noncomputable def evDraw3 (P : Program) (tt : TT) (callF : FuncId → List AV → Mem → T (AV × Mem)) (i j : Nat) (all : List Oper) (st0 : Tmps) (M0 : Mem) : T (Tmps × Mem) :=
  .ck (Nat.blt i j && (Nat.blt j all.length && (safeD i j all 0 && dstsOk all))) (onO (oneT (evDraw2V P tt callF (addE j i all 0) st0 M0)) fun x => onO (oneT (evDraw2V P tt callF (permL i j (addE i j all 0)) st0 M0)) fun y =>
    .ck (Nat.ble M0.lock M0.next && (Nat.beq x.2.next y.2.next && (eqVs x.1 (fun k => y.1 (pi1 i j k)) all.length && eqObjs (highL M0.lock x.2) (highL M0.lock y.2)))) (.ret (stA x.1 st0 (Nat.sub (Nat.pow 2 all.length) 1) all 0, canonM M0 x.2)))
/-- The first two that write and stand in no order. -/
noncomputable def pairD (mk : Nat → Nat) (all : List Oper) (l : List Oper) : Nat → Option (Nat × Nat) :=
  @List.rec Oper (fun _ => Nat → Option (Nat × Nat)) (fun _ => none) (fun o _ ih j => bif2 (mvK o) (ih (j + 1))
    (@Option.rec Nat (fun _ => Option (Nat × Nat)) (ih (j + 1)) (fun i => some (i, j)) (@List.rec Oper (fun _ => Nat → Option Nat) (fun _ => none) (fun p _ ih2 i => bif2 (Nat.blt i j) (bif2 (mvK p) (ih2 (i + 1)) (bif2 (Nat.testBit (mk j) i) (ih2 (i + 1)) (some i))) none) all 0))) l
/-! ### Those that write, in each order that there is: what is done is told by a set -/
noncomputable def inWS (mk : Nat → Nat) (D j : Nat) (l : List Oper) : Nat → Bool :=
  @List.rec Oper (fun _ => Nat → Bool) (fun _ => true) (fun o _ ih i => bif2 (mvK o) (ih (i + 1)) (bif2 (Nat.testBit D i) (bif2 (Nat.testBit (mk i) j) false (ih (i + 1))) (bif2 (Nat.testBit (mk j) i) false (ih (i + 1))))) l
noncomputable def stageS (P : Program) (tt : TT) (callF : FuncId → List AV → Mem → T (AV × Mem)) (all : List Oper) (mk : Nat → Nat) (st0 : Tmps) (V : DR) (D : Nat) (M : Mem) (l : List Oper) : Nat → T Bool :=
  @List.rec Oper (fun _ => Nat → T Bool) (fun _ => .ret true) (fun o _ ih j => bif2 (mvK o && inWS mk D j all 0) ((drawOp P tt callF all (lockAll M) (stA V st0 (mk j) (effL mk j all 0) 0) o).bind fun x => .ck (eqAV x.1 (V j).1 && okV M.next x.1) (ih (j + 1))) (ih (j + 1))) l
noncomputable def rdyW (mk : Nat → Nat) (D b : Nat) (l : List Oper) : Nat → Bool :=
  @List.rec Oper (fun _ => Nat → Bool) (fun _ => true) (fun o _ ih i => bif2 (mvK o) (ih (i + 1)) (bif2 (Nat.testBit (mk b) i) (bif2 (Nat.testBit D i) (ih (i + 1)) false) (ih (i + 1)))) l
noncomputable def eqM (M0 M M' : Mem) : Bool := Nat.beq M.next M'.next && eqObjs (highL M0.lock M) (highL M0.lock M')
noncomputable def brS (go : Nat → Mem → T Mem) (P : Program) (tt : TT) (callF : FuncId → List AV → Mem → T (AV × Mem)) (all : List Oper) (mk : Nat → Nat) (st0 : Tmps) (V : DR) (M0 : Mem) (D : Nat) (M : Mem) (l : List Oper) : Nat → Option Mem → T Mem :=
  @List.rec Oper (fun _ => Nat → Option Mem → T Mem) (fun _ acc => @Option.rec Mem (fun _ => T Mem) (.ret M) (fun M1 => .ret M1) acc)
    (fun o _ ih b acc => bif2 (bif2 (mvK o) false (bif2 (Nat.testBit D b) false (rdyW mk D b all 0)))
      ((drawOp P tt callF all M (stA V st0 (mk b) (effL mk b all 0) 0) o).bind fun x => .ck (eqAV x.1 (V b).1) ((go (Nat.lor D (Nat.shiftLeft 1 b)) x.2).bind fun M' => @Option.rec Mem (fun _ => T Mem) (ih (b + 1) (some M')) (fun M1 => .ck (eqM M0 M1 M') (ih (b + 1) (some M1))) acc))
      (ih (b + 1) acc)) l
noncomputable def chkS (P : Program) (tt : TT) (callF : FuncId → List AV → Mem → T (AV × Mem)) (all : List Oper) (mk : Nat → Nat) (st0 : Tmps) (V : DR) (M0 : Mem) (fuel : Nat) : Nat → Mem → T Mem :=
  @Nat.rec (fun _ => Nat → Mem → T Mem) (fun _ _ => .fail) (fun _ ih D M => (stageS P tt callF all mk st0 V D M all 0).bind fun _ => brS ih P tt callF all mk st0 V M0 D M all 0 none) fuel
noncomputable def evDrawT (P : Program) (tt : TT) (callF : FuncId → List AV → Mem → T (AV × Mem)) (all : List Oper) (st0 : Tmps) (M0 : Mem) : T (Tmps × Mem) :=
  .ck (edgesOk all 0 && (dstsOk all && (noSel all && Nat.ble M0.lock M0.next))) (masksK all 0 (fun _ => 0) fun mk => (gsD P tt callF all mk st0 all 0 M0 (fun _ => (.top, M0))).bind fun V =>
    (T.nopan (chkS P tt callF all mk st0 V M0 (all.length + 1) 0 M0)).bind fun M => .ret (stA V st0 (Nat.sub (Nat.pow 2 all.length) 1) all 0, canonM M0 M))
/-- Where the second way is taken: a closure is called, or a store stands beside a guarded load, in the part that is drawn. -/
def isCl (o : Oper) : Bool := match o.op with
  | .call c => match c.callee with
    | .value (.tmp _) => true
    | _ => false
  | _ => false
def isSt (o : Oper) : Bool := match o.op with
  | .store _ _ _ => true
  | _ => false
def isGL (o : Oper) : Bool := match o.op with
  | .load _ _ => o.guard.isSome
  | _ => false
noncomputable def use2 (all : List Oper) : Bool :=
  (fun m => (all.take m).any isCl || ((all.take m).any isSt && all.any isGL)) (split all (masks all 0 fun _ => 0) all 0 0)
/-- A function is called in the drawn part, and what writes stands in no order. -/
def isFC (o : Oper) : Bool := match o.op with
  | .call c => match c.callee with
    | .value _ => true
    | _ => false
  | _ => false
noncomputable def hasFC (all : List Oper) : Bool := (fun m => (all.take m).any isFC) (split all (masks all 0 fun _ => 0) all 0 0)
noncomputable def evDrawS (P : Program) (tt : TT) (callF : FuncId → List AV → Mem → T (AV × Mem)) (z : Bool) (big : Nat) (all : List Oper) (st0 : Tmps) (M0 : Mem) : T (Tmps × Mem) :=
  forceN M0.next fun nx => forceN M0.lock fun lk => bif2 (bif2 z (hasFC all) false)
    (@Option.rec (Nat × Nat) (fun _ => T (Tmps × Mem)) (evDraw2 P tt callF all st0 ⟨nx, lk, M0.get⟩) (fun _ => evDrawT P tt callF all st0 ⟨nx, lk, M0.get⟩) (pairD (masks all 0 fun _ => 0) all all 0))
    (bif2 (use2 all) (evDraw2 P tt callF all st0 ⟨nx, lk, M0.get⟩) (evDraw P tt callF big all st0 ⟨nx, lk, M0.get⟩))

/-- The slots that live at loops' heads; whether what is reckoned is reckoned at once (it changes no answer). -/
structure Keep where
  l : List Nat
  z : Bool
/-- What lives at a loop's head. -/
noncomputable def keepOnly (keep : List Nat) (st : Tmps) : Tmps :=
  @List.rec Nat (fun _ => Tmps) (fun _ => .top) (fun t _ ih => putA (some t) ih (st t)) keep

noncomputable def keepF {R : Type} (keep : List Nat) (st : Tmps) (k : Tmps → R) : R :=
  @List.rec Nat (fun _ => (Tmps → R) → R) (fun k => k (fun _ => .top)) (fun t _ ih k => forceA (st t) fun v => ih fun acc => k (putA (some t) acc v)) keep k
noncomputable def cst (l : List Nat) : List AV → Tmps := @List.rec Nat (fun _ => List AV → Tmps) (fun _ _ => .top) (fun t _ ih vs => @List.casesOn AV (fun _ => Tmps) vs (fun _ => .top) (fun v vs => putA (some t) (ih vs) v)) l
/-- At a loop's head: what lives, the new objects under new numbers. -/
noncomputable def headF (base : Nat) (roots : List AV) (keep : Keep) (st : Tmps) (M : Mem) (k : Tmps → Mem → T (X × Tmps × Mem)) : T (X × Tmps × Mem) :=
  bif2 keep.z (keepF keep.l st fun st => compact base (roots ++ mapL st keep.l) M fun f M => keepF keep.l (fun t => f (st t)) fun st => k st M)
    (compactU base (roots ++ mapL (keepOnly keep.l st) keep.l) M fun f M => k (cst keep.l (mapL (fun t => f (keepOnly keep.l st t)) keep.l)) (sealM M))

abbrev Res := X × Tmps × Mem
/-- A slot that was asked. -/
noncomputable def setB (c : Operand) (b : Bool) (st : Tmps) : Tmps := @Operand.casesOn (fun _ => Tmps) c (fun t => putA (some t) st (.b b)) (fun _ => st) (fun _ => st) (fun _ => st)
noncomputable def onX (x : Res) (n : Tmps → Mem → T Res) (e : Nat → T Res) : T Res :=
  @X.casesOn (fun _ => T Res) x.1 (n x.2.1 x.2.2) e (.ret (.ret, x.2))
/-- 'keep': the slots that live at loops' heads; 'L': rounds. -/
noncomputable def evCode (P : Program) (tt : TT) (callF : FuncId → List AV → Mem → T (AV × Mem)) (roots : List AV) (keep : Keep) (L big : Nat) (c : Code) : Tmps → Mem → T Res :=
  @Code.rec (fun _ => Tmps → Mem → T Res)
    (fun st M => .ret (.normal, st, M))                    -- skip
    (fun _ ops draw st M => bif2 draw ((evDrawS P tt callF keep.z big ops.toList st M).bind fun x => .ret (.normal, x.1, x.2)) ((evOps P tt callF ops.toList ops.toList st M).bind fun x => .ret (.normal, x.1, x.2)))
    (fun _ _ iha ihb st M => (iha st M).bind fun x => onX x ihb fun j => .ret (.exit j, x.2))
    (fun c _ _ iht ihe st M => onB (evA st c) fun b => .br b (iht (setB c true st) M) (ihe (setB c false st) M))
    (fun id _ ih st M => (ih st M).bind fun x => onX x (fun st M => .ret (.normal, st, M)) fun j => bif2 (Nat.beq j id) (.ret (.normal, x.2)) (.ret (.exit j, x.2)))
    (fun _ ih st M => forceN M.next fun base => @Nat.rec (fun _ => Tmps → Mem → T Res) (fun _ _ => .fail) (fun _ again st M => headF base roots keep st M fun st M => (ih st M).bind fun x => onX x again fun j => .ret (.exit j, x.2)) L st M)
    (fun _ _ _ _ _ _ _ _ => .fail)
    (fun id st M => .ret (.exit id, st, M))
    (fun _ _ _ _ => .fail)
    (fun _ _ _ => .fail)
    (fun _ _ _ => .fail)
    (fun st M => .ret (.ret, st, M))
    (fun _ _ _ => .fail)
    c

noncomputable def evRes (tt : TT) (st : Tmps) (l : List ResultVar) : Mem → T (List AV × Mem) :=
  @List.rec ResultVar (fun _ => Mem → T (List AV × Mem)) (fun M => .ret ([], M)) (fun r _ ih M =>
    (@ResultVar.casesOn (fun _ => T (AV × Mem)) r (fun t => .ret (st t, M)) (fun a t => evLoad (tt t) M (st a))).bind fun x => (ih x.2).bind fun y => .ret (x.1 :: y.1, y.2)) l
noncomputable def single (x : List AV × Mem) : AV × Mem := (@List.casesOn AV (fun _ => AV) x.1 (.tup []) (fun a l => @List.casesOn AV (fun _ => AV) l a (fun b l => .tup (a :: b :: l))), x.2)
noncomputable def argTmps (l : List AV) : Nat → Tmps := @List.rec AV (fun _ => Nat → Tmps) (fun _ _ => .top) (fun x _ ih i => putA (some i) (ih (i + 1)) x) l

structure FI where
  n : Nat
  code : Code
  res : List ResultVar
  keep : Keep
/-- The results, the new objects under new numbers. -/
noncomputable def shutF (z : Bool) (base : Nat) (roots : List AV) (y : List AV × Mem) : T (AV × Mem) :=
  bif2 z (compact base (roots ++ y.1) y.2 fun f M => forceL (mapL f y.1) fun l => .ret (single (l, M))) (compactU base (roots ++ y.1) y.2 fun f M => .ret (single (mapL f y.1, M)))
noncomputable def evEnd (base : Nat) (roots : List AV) (tt : TT) (fi : FI) (x : Res) : T (AV × Mem) :=
  @X.casesOn (fun _ => T (AV × Mem)) x.1 ((evRes tt x.2.1 fi.res x.2.2).bind (shutF fi.keep.z base roots)) (fun _ => .fail) ((evRes tt x.2.1 fi.res x.2.2).bind (shutF fi.keep.z base roots))
noncomputable def evBody (P : Program) (tt : TT) (L big : Nat) (callF : FuncId → List AV → Mem → T (AV × Mem)) (fi : FI) (args : List AV) (M : Mem) : T (AV × Mem) :=
  .br (Nat.ble args.length fi.n) (forceN M.next fun base => (evCode P tt callF args fi.keep L big fi.code (argTmps args 0) M).bind (evEnd base args tt fi)) .fail
/-- A function is told by its code, or by a contract. -/
noncomputable def evFun (P : Program) (tt : TT) (S : Nat → Option (List AV → Mem → T (AV × Mem))) (F : Nat → Option FI) (L : Nat) (d : Nat) : FuncId → List AV → Mem → T (AV × Mem) :=
  @Nat.rec (fun _ => FuncId → List AV → Mem → T (AV × Mem)) (fun _ _ _ => .fail) (fun d ih f args M =>
    @Option.rec (List AV → Mem → T (AV × Mem)) (fun _ => T (AV × Mem)) (onO (F f) fun fi => evBody P tt L (Nat.pow 2 (Nat.mul 32 d)) ih fi args M) (fun s => s args M) (S f)) d
end Go.Eng

set_option autoImplicit false
namespace Go.Eng
open Go Go.RowKit

/-! ## Trees -/
theorem T.holds_ret {α : Type} (a : α) (Q : α → Prop) (Qp : AV → Mem → Prop) : (T.ret a).holds Q Qp = Q a := rfl
theorem T.holds_br {α : Type} (b : Bool) (t e : T α) (Q : α → Prop) (Qp : AV → Mem → Prop) : (T.br b t e).holds Q Qp = ((b = true → t.holds Q Qp) ∧ (b = false → e.holds Q Qp)) := rfl
theorem T.holds_fail {α : Type} (Q : α → Prop) (Qp : AV → Mem → Prop) : (T.fail : T α).holds Q Qp = False := rfl
theorem T.holds_pan {α : Type} (x : AV) (M : Mem) (Q : α → Prop) (Qp : AV → Mem → Prop) : (T.pan x M : T α).holds Q Qp = Qp x M := rfl
theorem T.holds_bind {α β : Type} (x : T α) (f : α → T β) (Q : β → Prop) (Qp : AV → Mem → Prop) : (x.bind f).holds Q Qp = x.holds (fun a => (f a).holds Q Qp) Qp := by
  induction x with
  | ret a => rfl
  | br b t e iht ihe =>
    show ((b = true → (t.bind f).holds Q Qp) ∧ (b = false → (e.bind f).holds Q Qp)) = _
    rw [iht, ihe]; rfl
  | pan x M => rfl
  | ck b t ih =>
    show (b = true ∧ (t.bind f).holds Q Qp) = _
    rw [ih]; rfl
  | fail => rfl
theorem T.holds_mono {α : Type} {x : T α} {Q Q' : α → Prop} {Qp Qp' : AV → Mem → Prop} (h : x.holds Q Qp) (hq : ∀ a, Q a → Q' a) (hp : ∀ a M, Qp a M → Qp' a M) : x.holds Q' Qp' := by
  induction x with
  | ret a => exact hq _ h
  | br b t e iht ihe => exact ⟨fun hb => iht (h.1 hb), fun hb => ihe (h.2 hb)⟩
  | pan x M => exact hp _ _ h
  | ck b t ih => exact ⟨h.1, ih h.2⟩
  | fail => exact h
theorem T.holds_run {α : Type} {x : T α} {r : α ⊕ (AV × Mem)} (h : x.run = some r) : x.holds (fun a => r = .inl a) (fun a M => r = .inr (a, M)) := by
  induction x with
  | ret a => exact (Option.some.inj h).symm
  | br b t e iht ihe =>
    refine ⟨fun hb => iht ?_, fun hb => ihe ?_⟩ <;> subst hb <;> exact h
  | pan x M => exact (Option.some.inj h).symm
  | ck b t ih =>
    cases b with
    | true => exact ⟨rfl, ih h⟩
    | false => cases h
  | fail => cases h

/-! ## Places -/
structure Pl where
  b : Nat
  o : Nat
  rs : Nat
  k : Nat
  spot : Option Nat := none
abbrev Phi := Nat → Option (Option Pl)
def Pl.at (p : Pl) (r c : Nat) : Addr := ⟨p.b, p.o + (r * p.rs + c), p.spot⟩

/-- A capacity as it is told: the number itself, or from below. -/
def CapOk (c cc : Nat) : Prop := (c < bigC → cc = c) ∧ (bigC ≤ c → c - bigC ≤ cc)
theorem CapOk.big (cc : Nat) : CapOk bigC cc := ⟨fun h => absurd h (Nat.lt_irrefl _), fun _ => by rw [Nat.sub_self]; exact Nat.zero_le _⟩
theorem CapOk.self (c : Nat) : CapOk c c := ⟨fun _ => rfl, fun _ => Nat.sub_le _ _⟩
mutual
inductive AVRel (φ : Phi) : AV → Value → Prop
  | i (k : IntKind) (n : Int) : AVRel φ (.i k n) (.int k n)
  | b (x : Bool) : AVRel φ (.b x) (.bool x)
  | s (x : ByteArray) : AVRel φ (.s x) (.string x)
  | v (x : Value) : AVRel φ (.v x) x
  | ptr (id r c : Nat) (p : Pl) (h : φ id = some (some p)) (hs : p.spot = none) : AVRel φ (.ptr id r c) (.pointer (some (p.at r c)))
  | sl (id r n : Nat) (cap : Option Nat) (x : Option Pl) (cc : Nat) (h : φ id = some x) (h0 : x = none → n = 0) (hc : ∀ c, cap = some c → CapOk c cc) (hle : n ≤ cc) (hk : ∀ p, x = some p → cc + r ≤ p.k) (hs : ∀ p, x = some p → 0 < n → p.spot = none) :
      AVRel φ (.sl id r n cap) (.slice (x.map fun p => p.at r 0) n cc)
  | e (A : Addr) (cc : Nat) : AVRel φ .e (.slice (some A) 0 cc)
  | mp (id : Nat) (p : Pl) (h : φ id = some (some p)) : AVRel φ (.mp id) (.map (some p.b))
  | fn (f : Fn) (l : List AV) (a : Array Value) (h : AVsRel φ l a.toList) : AVRel φ (.fn f l) (.func f #[] a)
  | ifc (t : TypeId) (x : AV) (y : Value) (h : AVRel φ x y) : AVRel φ (.ifc t x) (.iface t y)
  | agg (l : List AV) (a : Array Value) (h : AVsRel φ l a.toList) : AVRel φ (.agg l) (.agg a)
  | tup (l : List AV) (a : Array Value) (h : AVsRel φ l a.toList) : AVRel φ (.tup l) (.tuple a)
  | top (x : Value) : AVRel φ .top x
inductive AVsRel (φ : Phi) : List AV → List Value → Prop
  | nil : AVsRel φ [] []
  | cons {x : AV} {y : Value} {l : List AV} {m : List Value} (h : AVRel φ x y) (t : AVsRel φ l m) : AVsRel φ (x :: l) (y :: m)
end

/-- What has a place keeps it. -/
def PhiLe (φ φ' : Phi) : Prop := ∀ id x, φ id = some x → φ' id = some x
theorem PhiLe.refl (φ : Phi) : PhiLe φ φ := fun _ _ h => h
theorem PhiLe.trans {φ φ' φ'' : Phi} (h : PhiLe φ φ') (h' : PhiLe φ' φ'') : PhiLe φ φ'' := fun id x e => h' id x (h id x e)

theorem AVRel.mono {φ φ' : Phi} (hp : PhiLe φ φ') {x : AV} {y : Value} (h : AVRel φ x y) : AVRel φ' x y := by
  refine AVRel.rec (motive_1 := fun x y _ => AVRel φ' x y) (motive_2 := fun l m _ => AVsRel φ' l m) ?_ ?_ ?_ ?_ ?_ ?_ ?_ ?_ ?_ ?_ ?_ ?_ ?_ ?_ ?_ h
  · exact fun k n => .i k n
  · exact fun x => .b x
  · exact fun x => .s x
  · exact fun x => .v x
  · exact fun id r c p h hs => .ptr id r c p (hp _ _ h) hs
  · exact fun id r n cap x cc h h0 hc hle hk hs => .sl id r n cap x cc (hp _ _ h) h0 hc hle hk hs
  · exact fun A cc => .e A cc
  · exact fun id p h => .mp id p (hp _ _ h)
  · exact fun f l a _ h => .fn f l a h
  · exact fun t x y _ h => .ifc t x y h
  · exact fun l a _ h => .agg l a h
  · exact fun l a _ h => .tup l a h
  · exact fun x => .top x
  · exact .nil
  · exact fun _ _ h t => .cons h t
theorem AVsRel.mono {φ φ' : Phi} (hp : PhiLe φ φ') {l : List AV} {m : List Value} (h : AVsRel φ l m) : AVsRel φ' l m := by
  induction l generalizing m with
  | nil => cases h; exact .nil
  | cons x l ih => cases h with | cons h t => exact .cons (h.mono hp) (ih t)

theorem AVsRel.length {φ : Phi} {l : List AV} {m : List Value} (h : AVsRel φ l m) : l.length = m.length := by
  induction l generalizing m with
  | nil => cases h; rfl
  | cons x l ih => cases h with | cons h t => simp [ih t]
theorem AVsRel.get {φ : Phi} {l : List AV} {m : List Value} (h : AVsRel φ l m) (i : Nat) (x : AV) (hx : l[i]? = some x) : ∃ y, m[i]? = some y ∧ AVRel φ x y := by
  induction l generalizing m i with
  | nil => simp at hx
  | cons a l ih => cases h with
    | cons h t =>
      cases i with
      | zero => simp at hx; subst hx; exact ⟨_, rfl, h⟩
      | succ i => simp at hx; simpa using ih t i hx
theorem AVsRel.append {φ : Phi} {l l' : List AV} {m m' : List Value} (h : AVsRel φ l m) (h' : AVsRel φ l' m') : AVsRel φ (l ++ l') (m ++ m') := by
  induction l generalizing m with
  | nil => cases h; exact h'
  | cons a l ih => cases h with | cons h t => exact .cons h (ih t)
theorem AVsRel.drop {φ : Phi} {l : List AV} {m : List Value} (h : AVsRel φ l m) (n : Nat) : AVsRel φ (l.drop n) (m.drop n) := by
  induction n generalizing l m with
  | zero => simpa using h
  | succ n ih => cases h with
    | nil => simpa using AVsRel.nil
    | cons h t => simpa using ih t
theorem AVsRel.take {φ : Phi} {l : List AV} {m : List Value} (h : AVsRel φ l m) (n : Nat) : AVsRel φ (l.take n) (m.take n) := by
  induction n generalizing l m with
  | zero => simpa using AVsRel.nil
  | succ n ih => cases h with
    | nil => simpa using AVsRel.nil
    | cons h t => simpa using AVsRel.cons h (ih t)
theorem AVsRel.map {α : Type} {φ : Phi} (l : List α) (f : α → AV) (g : α → Value) (h : ∀ x ∈ l, AVRel φ (f x) (g x)) : AVsRel φ (l.map f) (l.map g) := by
  induction l with
  | nil => exact .nil
  | cons x l ih => exact .cons (h x (by simp)) (ih fun y hy => h y (by simp [hy]))

theorem lift1_rel (φ : Phi) (x : Value) : AVRel φ (lift1 x) x := by
  cases x <;> first | exact .i _ _ | exact .b _ | exact .s _ | exact .v _
theorem lift_rel (φ : Phi) (x : Value) : AVRel φ (lift x) x := by
  cases x with
  | agg cs =>
    refine .agg _ _ ?_
    have := AVsRel.map (φ := φ) cs.toList lift1 id fun x _ => lift1_rel φ x
    simpa using this
  | _ => first | exact .i _ _ | exact .b _ | exact .s _ | exact .v _

/-! ## Memory -/
/-- A bound of blocks, and what some cells below it hold for good. -/
structure NB where
  n : Nat
  gl : Nat → Nat → Option Value
instance : Coe NB Nat := ⟨NB.n⟩
def Glob (N : NB) (w : World) : Prop := ∀ b off v, N.gl b off = some v → b < N.n ∧ w.cell? ⟨b, off, none⟩ = some v
/-- What a column reads at a row, in blocks below N. -/
inductive ColRel (N : NB) (w : World) : Col → Nat → Value → Prop
  | ci (k : IntKind) (l : List Int) (i : Nat) : ColRel N w (.ci k l) i (.int k (l.getD i 0))
  | cs (l : List ByteArray) (i : Nat) : ColRel N w (.cs l) i (.string (l.getD i ByteArray.empty))
  | cb (l : List Bool) (i : Nat) : ColRel N w (.cb l) i (.bool (l.getD i false))
  | cf (k : FloatKind) (l : List Nat) (i : Nat) : ColRel N w (.cf k l) i (.float k (l.getD i 0))
  | cl (h : List (Bool × Nat × Nat)) (sub : Nat → List Col) (i : Nat) (A : Option Addr) (z : Nat → Nat → Value)
      (hlen : ∀ (c : Nat) (col : Col), (sub i)[c]? = some col → col.len = (h.getD i (true, 0, 0)).2.1) (hle : (h.getD i (true, 0, 0)).2.1 ≤ (h.getD i (true, 0, 0)).2.2) (hA : (h.getD i (true, 0, 0)).1 = A.isNone) (h0 : A = none → (h.getD i (true, 0, 0)).2.1 = 0) (hb : ∀ a, A = some a → 0 < (h.getD i (true, 0, 0)).2.1 → a.block < N.n ∧ a.spot = none)
      (hz : ∀ a, A = some a → ∀ j, j < (h.getD i (true, 0, 0)).2.1 → ∀ c col, (sub i)[c]? = some col → w.cell? ⟨a.block, a.off + (j * (sub i).length + c), none⟩ = some (z j c))
      (hc : ∀ j, j < (h.getD i (true, 0, 0)).2.1 → ∀ c col, (sub i)[c]? = some col → ColRel N w col j (z j c)) :
      ColRel N w (.cl h sub) i (.slice A (h.getD i (true, 0, 0)).2.1 (h.getD i (true, 0, 0)).2.2)

/-- The blocks below N are as they were. -/
def SameBelow (N : NB) (w w' : World) : Prop := ∀ b, b < N.n → w'.heap[b]? = w.heap[b]?
theorem SameBelow.cell {N : NB} {w w' : World} (h : SameBelow N w w') {a : Addr} (ha : a.block < N.n) : w'.cell? a = w.cell? a := by
  simp only [World.cell?, h _ ha]
theorem Glob.same {N : NB} {w w' : World} (h : Glob N w) (hs : SameBelow N w w') : Glob N w' := fun b off v e => ⟨(h b off v e).1, (hs.cell (a := ⟨b, off, none⟩) (h b off v e).1).trans (h b off v e).2⟩
theorem ColRel.same {N : NB} {w w' : World} (hs : SameBelow N w w') {col : Col} {i : Nat} {y : Value} (h : ColRel N w col i y) : ColRel N w' col i y := by
  induction h with
  | ci k l i => exact .ci k l i
  | cs l i => exact .cs l i
  | cb l i => exact .cb l i
  | cf k l i => exact .cf k l i
  | cl h sub i A z hlen hle hA h0 hb hz hc ih =>
    exact .cl h sub i A z hlen hle hA h0 hb (fun a ha j hj c col hcol => (hs.cell (a := ⟨a.block, _, none⟩) (hb a ha (Nat.lt_of_le_of_lt (Nat.zero_le _) hj)).1).trans (hz a ha j hj c col hcol)) ih

def OwnBlock (w : World) (b : Nat) (elem : TypeId) (n : Nat) : Prop := ∃ cur f, w.heap[b]? = some (.cells cur elem f) ∧ cur.size = n ∧ (f = (0, 0) ∨ n ≤ f.1)
def isOwn : AObj → Prop
  | .own .. => True
  | .vec .. => True
  | .map .. => True
  | _ => False
def ObjRel (N : NB) (φ : Phi) (w : World) (id : Nat) : AObj → Prop
  | .dead => Glob N w
  | .ro nil n cols => (∀ (c : Nat) (col : Col), cols[c]? = some col → col.len = n) ∧ ∃ x, φ id = some x ∧ nil = x.isNone ∧ (x = none → n = 0) ∧ ∀ p, x = some p → p.rs = cols.length ∧ (0 < n → p.b < N.n ∧ p.spot = none) ∧
      ∀ j, j < n → ∀ c col, cols[c]? = some col → ∃ z, w.cell? (p.at j c) = some z ∧ ColRel N w col j z
  | .own elem rs cells => ∃ p, φ id = some (some p) ∧ (p.o = 0 ∧ p.spot = none) ∧ p.rs = rs ∧ OwnBlock w p.b elem (p.k * rs) ∧ cells.length ≤ p.k * rs ∧
      ∀ j a, cells[j]? = some a → ∃ z, w.cell? ⟨p.b, j, none⟩ = some z ∧ AVRel φ a z
  | .vec elem n cols => (∀ (c : Nat) (col : Col), cols[c]? = some col → col.len = n) ∧ ∃ p, φ id = some (some p) ∧ (p.o = 0 ∧ p.spot = none) ∧ p.rs = cols.length ∧ OwnBlock w p.b elem (p.k * cols.length) ∧ n ≤ p.k ∧
      ∀ j, j < n → ∀ c col, cols[c]? = some col → ∃ z, w.cell? (p.at j c) = some z ∧ ColRel N w col j z
  | .map es cl => ∃ p, φ id = some (some p) ∧ (p.o = 0 ∧ p.spot = none) ∧ w.heap[p.b]? = some (.map es.toArray cl)

structure Rep (N : NB) (φ : Phi) (M : Mem) (w : World) : Prop where
  objs : ∀ id, ObjRel N φ w id (M.get id)
  sep : ∀ id id' p p', isOwn (M.get id) → isOwn (M.get id') → φ id = some (some p) → φ id' = some (some p') → p.b = p'.b → id = id'
  high : ∀ id p, isOwn (M.get id) → φ id = some (some p) → N.n ≤ p.b
  fresh : ∀ id, M.next ≤ id → M.get id = .dead ∧ φ id = none
  size : N.n ≤ w.heap.size

/-- From one state to a later one. -/
structure Ext (φ : Phi) (M : Mem) (w : World) (φ' : Phi) (M' : Mem) (w' : World) : Prop where
  phi : PhiLe φ φ'
  phi0 : ∀ id, id < M.next → φ' id = φ id
  next : M.next ≤ M'.next
  lock : M'.lock = M.lock
  os : w'.os = w.os
  tape : w'.tape = w.tape
  output : w'.output = w.output
  size : w.heap.size ≤ w'.heap.size
  keep : ∀ b, b < w.heap.size → (∀ id p, M.lock ≤ id → isOwn (M.get id) → φ id = some (some p) → p.b ≠ b) → w'.heap[b]? = w.heap[b]?
  old : ∀ id p, isOwn (M'.get id) → φ' id = some (some p) → p.b < w.heap.size → ∃ id' p', isOwn (M.get id') ∧ φ id' = some (some p') ∧ p'.b = p.b ∧ (M.lock ≤ id → M.lock ≤ id')
theorem Ext.refl (φ : Phi) (M : Mem) (w : World) : Ext φ M w φ M w :=
  ⟨.refl _, fun _ _ => rfl, Nat.le_refl _, rfl, rfl, rfl, rfl, Nat.le_refl _, fun _ _ _ => rfl, fun id p h h' _ => ⟨id, p, h, h', rfl, fun h => h⟩⟩
theorem Ext.trans {φ φ' φ'' : Phi} {M M' M'' : Mem} {w w' w'' : World} (h : Ext φ M w φ' M' w') (h' : Ext φ' M' w' φ'' M'' w'') : Ext φ M w φ'' M'' w'' where
  phi := h.phi.trans h'.phi
  phi0 := fun id hid => (h'.phi0 id (Nat.lt_of_lt_of_le hid h.next)).trans (h.phi0 id hid)
  next := Nat.le_trans h.next h'.next
  lock := h'.lock.trans h.lock
  os := h'.os.trans h.os
  tape := h'.tape.trans h.tape
  output := h'.output.trans h.output
  size := Nat.le_trans h.size h'.size
  keep := fun b hb hno => by
    rw [h'.keep b (Nat.lt_of_lt_of_le hb h.size) ?_, h.keep b hb hno]
    intro id p hl ho hp hpb
    subst hpb
    obtain ⟨id', p', ho', hp', hb', hl'⟩ := h.old id p ho hp hb
    exact hno id' p' (hl' (h.lock ▸ hl)) ho' hp' hb'
  old := fun id p ho hp hb => by
    obtain ⟨id', p', ho', hp', hb', hl'⟩ := h'.old id p ho hp (Nat.lt_of_lt_of_le hb h.size)
    obtain ⟨id'', p'', ho'', hp'', hb'', hl''⟩ := h.old id' p' ho' hp' (hb' ▸ hb)
    exact ⟨id'', p'', ho'', hp'', hb''.trans hb', fun hl => hl'' (h.lock ▸ hl' (h.lock ▸ hl))⟩
theorem Ext.below {N : NB} {φ φ' : Phi} {M M' : Mem} {w w' : World} (h : Ext φ M w φ' M' w') (hr : Rep N φ M w) : Below N w w' :=
  ⟨h.os, h.tape, h.output, h.size, fun b hb => h.keep b (Nat.lt_of_lt_of_le hb hr.size) fun id p _ ho hp hpb => by
    have := hr.high id p ho hp
    omega⟩
theorem Ext.draw (φ : Phi) (M : Mem) (w : World) : Ext φ M w φ M w.drew :=
  ⟨.refl _, fun _ _ => rfl, Nat.le_refl _, rfl, rfl, rfl, rfl, Nat.le_refl _, fun _ _ _ => rfl, fun id p h h' _ => ⟨id, p, h, h', rfl, fun h => h⟩⟩
end Go.Eng

set_option autoImplicit false
namespace Go.Eng
open Go Go.RowKit

theorem nth?_eq {α : Type} (l : List α) (i : Nat) : nth? l i = l[i]? := by
  induction l generalizing i with
  | nil => rfl
  | cons x l ih => cases i with
    | zero => rfl
    | succ i => exact ih i
theorem sel_ok {α : Type} {l : List α} {i : Nat} {Q : α → Prop} {Qp : AV → Mem → Prop} (h : (sel l i).holds Q Qp) : ∃ x, l[i]? = some x ∧ Q x := by
  induction l generalizing i with
  | nil => exact h.elim
  | cons x l ih => cases i with
    | zero => exact ⟨x, rfl, h⟩
    | succ i => simpa using ih (i := i) h
theorem onO_ok {α β : Type} {x : Option α} {f : α → T β} {Q : β → Prop} {Qp : AV → Mem → Prop} (h : (onO x f).holds Q Qp) : ∃ a, x = some a ∧ (f a).holds Q Qp := by
  cases x with
  | none => exact h.elim
  | some a => exact ⟨a, rfl, h⟩
theorem bif2_eq {α : Type} (b : Bool) (t e : α) : bif2 b t e = if b = true then t else e := by cases b <;> rfl
theorem upd_eq {α : Type} (f : Nat → α) (i : Nat) (x : α) (j : Nat) : upd f i x j = if j = i then x else f j := by
  unfold upd
  cases h : Nat.beq j i with
  | true => rw [if_pos (Nat.eq_of_beq_eq_true h)]
  | false => rw [if_neg (Nat.ne_of_beq_eq_false h)]
@[simp] theorem Mem.get_set (M : Mem) (id : Nat) (o : AObj) (j : Nat) : (M.set id o).get j = if j = id then o else M.get j := upd_eq ..
@[simp] theorem Mem.get_new (M : Mem) (o : AObj) (j : Nat) : (M.new o).get j = if j = M.next then o else M.get j := upd_eq ..
@[simp] theorem Mem.next_new (M : Mem) (o : AObj) : (M.new o).next = M.next + 1 := rfl
@[simp] theorem Mem.lock_new (M : Mem) (o : AObj) : (M.new o).lock = M.lock := rfl
@[simp] theorem Mem.next_set (M : Mem) (id : Nat) (o : AObj) : (M.set id o).next = M.next := rfl
@[simp] theorem Mem.lock_set (M : Mem) (id : Nat) (o : AObj) : (M.set id o).lock = M.lock := rfl

def updP (φ : Phi) (i : Nat) (x : Option Pl) : Phi := fun j => if j = i then some x else φ j
theorem updP_lt {φ : Phi} {i : Nat} (x : Option Pl) {id : Nat} (h : id < i) : updP φ i x id = φ id := if_neg (Nat.ne_of_lt h)
theorem updP_le {φ : Phi} {i : Nat} (x : Option Pl) (h : φ i = none) : PhiLe φ (updP φ i x) := by
  intro id y e
  unfold updP
  split
  · rename_i hh; subst hh; rw [h] at e; cases e
  · exact e
@[simp] theorem updP_self (φ : Phi) (i : Nat) (x : Option Pl) : updP φ i x i = some x := by simp [updP]

theorem OwnBlock.lt {w : World} {b : Nat} {e : TypeId} {n : Nat} (h : OwnBlock w b e n) : b < w.heap.size := by
  obtain ⟨cur, f, hc, _⟩ := h
  exact (Array.getElem?_eq_some_iff.1 hc).1
theorem OwnBlock.cellSome {w : World} {b : Nat} {e : TypeId} {n : Nat} (h : OwnBlock w b e n) {j : Nat} (hj : j < n) : (w.cell? ⟨b, j, none⟩).isSome = true := by
  obtain ⟨cur, f, hc, hs, _⟩ := h
  simp [World.cell?, hc, hs, hj]
theorem OwnBlock.free {w : World} {b : Nat} {e : TypeId} {n : Nat} (h : OwnBlock w b e n) {j : Nat} (hj : j < n) : w.frozen? ⟨b, j, none⟩ = false := by
  obtain ⟨cur, ⟨f1, f2⟩, hc, hs, hf⟩ := h
  rcases hf with hf | hf
  · cases hf; simp [World.frozen?, hc]
  · have : ¬ (f1 ≤ j) := by simp only at hf; omega
    simp [World.frozen?, hc, this]
theorem cell_eq {w w' : World} {b : Nat} (h : w'.heap[b]? = w.heap[b]?) (o : Nat) (s : Option Nat) : w'.cell? ⟨b, o, s⟩ = w.cell? ⟨b, o, s⟩ := by
  simp only [World.cell?, h]
theorem OwnBlock.same {w w' : World} {b : Nat} {e : TypeId} {n : Nat} (h : OwnBlock w b e n) (hs : w'.heap[b]? = w.heap[b]?) : OwnBlock w' b e n := by
  obtain ⟨cur, f, hc, hn⟩ := h
  exact ⟨cur, f, hs.trans hc, hn⟩

/-- An object in a later world. -/
theorem ObjRel.step {N : NB} {φ φ' : Phi} {w w' : World} {id : Nat} {o : AObj} (h : ObjRel N φ w id o) (hp : PhiLe φ φ') (hs : SameBelow N w w')
    (ho : isOwn o → ∀ p, φ id = some (some p) → w'.heap[p.b]? = w.heap[p.b]?) : ObjRel N φ' w' id o := by
  cases o with
  | dead => exact h.same hs
  | ro nil n cols =>
    obtain ⟨hln, x, hx, hn, h0, hc⟩ := h
    refine ⟨hln, x, hp _ _ hx, hn, h0, fun p hpx => ?_⟩
    obtain ⟨h1, h2, h3⟩ := hc p hpx
    refine ⟨h1, h2, fun j hj c col hcol => ?_⟩
    obtain ⟨z, hz, hr⟩ := h3 j hj c col hcol
    exact ⟨z, (hs.cell (a := p.at j c) (h2 (Nat.lt_of_le_of_lt (Nat.zero_le _) hj)).1).trans hz, hr.same hs⟩
  | own elem rs cells =>
    obtain ⟨p, hpx, h0, h1, h2, h3, h4⟩ := h
    have hb := ho trivial p hpx
    refine ⟨p, hp _ _ hpx, h0, h1, h2.same hb, h3, fun j a ha => ?_⟩
    obtain ⟨z, hz, hr⟩ := h4 j a ha
    exact ⟨z, (cell_eq hb _ _).trans hz, hr.mono hp⟩
  | vec elem n cols =>
    obtain ⟨hln, p, hpx, h0, h1, h2, h3, h4⟩ := h
    have hb := ho trivial p hpx
    refine ⟨hln, p, hp _ _ hpx, h0, h1, h2.same hb, h3, fun j hj c col hcol => ?_⟩
    obtain ⟨z, hz, hr⟩ := h4 j hj c col hcol
    exact ⟨z, (cell_eq hb _ _).trans hz, hr.same hs⟩
  | map es cl =>
    obtain ⟨p, hpx, h0, h1⟩ := h
    exact ⟨p, hp _ _ hpx, h0, (ho trivial p hpx).trans h1⟩

theorem Rep.glob {N : NB} {φ : Phi} {M : Mem} {w : World} (h : Rep N φ M w) : Glob N w := by
  have := h.objs M.next
  rw [(h.fresh _ (Nat.le_refl _)).1] at this
  exact this
/-- A draw changes nothing. -/
theorem Rep.draw {N : NB} {φ : Phi} {M : Mem} {w : World} (h : Rep N φ M w) : Rep N φ M w.drew :=
  ⟨fun id => (h.objs id).step (.refl _) (fun _ _ => rfl) (fun _ _ _ => rfl), h.sep, h.high, h.fresh, h.size⟩

/-- A new object over what is there (no block of its own). -/
theorem Rep.newRo {N : NB} {φ : Phi} {M : Mem} {w : World} (h : Rep N φ M w) (nil : Bool) (n : Nat) (cols : List Col) (x : Option Pl) (ho : ObjRel N (updP φ M.next x) w M.next (.ro nil n cols)) :
    Rep N (updP φ M.next x) (M.new (.ro nil n cols)) w ∧ Ext φ M w (updP φ M.next x) (M.new (.ro nil n cols)) w := by
  have hf := (h.fresh M.next (Nat.le_refl _)).2
  have hle := updP_le x hf
  have own : ∀ id p, isOwn ((M.new (.ro nil n cols)).get id) → updP φ M.next x id = some (some p) → isOwn (M.get id) ∧ φ id = some (some p) := by
    intro id p ho hp
    simp only [Mem.get_new] at ho
    split at ho
    · exact ho.elim
    · rename_i hne
      exact ⟨ho, by simpa [updP, hne] using hp⟩
  refine ⟨⟨fun id => ?_, fun id id' p p' ho ho' hp hp' e => ?_, fun id p ho hp => ?_, fun id hid => ?_, h.size⟩, ⟨hle, fun _ h => updP_lt _ h, by simp, rfl, rfl, rfl, rfl, Nat.le_refl _, fun _ _ _ => rfl, fun id p ho hp _ => ⟨id, p, (own id p ho hp).1, (own id p ho hp).2, rfl, fun h => h⟩⟩⟩
  · simp only [Mem.get_new]
    split
    · rename_i e; subst e; exact ho
    · exact (h.objs id).step hle (fun _ _ => rfl) (fun _ _ _ => rfl)
  · obtain ⟨h1, h2⟩ := own id p ho hp
    obtain ⟨h3, h4⟩ := own id' p' ho' hp'
    exact h.sep id id' p p' h1 h3 h2 h4 e
  · obtain ⟨h1, h2⟩ := own id p ho hp
    exact h.high id p h1 h2
  · simp only [Mem.next_new] at hid
    have hne : id ≠ M.next := by omega
    simp only [Mem.get_new, if_neg hne]
    obtain ⟨h1, h2⟩ := h.fresh id (by omega)
    exact ⟨h1, by simp [updP, hne, h2]⟩

theorem push_same (w : World) (o : Obj) (b : Nat) (hb : b < w.heap.size) : (w.alloc o).heap[b]? = w.heap[b]? := by
  show (w.heap.push o)[b]? = _
  rw [Array.getElem?_push, if_neg (by omega)]
theorem alloc_size (w : World) (o : Obj) : (w.alloc o).heap.size = w.heap.size + 1 := Array.size_push ..
theorem alloc_new (w : World) (o : Obj) : (w.alloc o).heap[w.heap.size]? = some o := by
  show (w.heap.push o)[w.heap.size]? = _
  rw [Array.getElem?_push, if_pos rfl]

/-- A new object with a block of its own. -/
theorem Rep.newOwn {N : NB} {φ : Phi} {M : Mem} {w : World} (h : Rep N φ M w) (o : AObj) (ob : Obj) (p : Pl) (hb : p.b = w.heap.size)
    (ho : ObjRel N (updP φ M.next (some p)) (w.alloc ob) M.next o) :
    Rep N (updP φ M.next (some p)) (M.new o) (w.alloc ob) ∧ Ext φ M w (updP φ M.next (some p)) (M.new o) (w.alloc ob) := by
  have hf := (h.fresh M.next (Nat.le_refl _)).2
  have hle := updP_le (some p) hf
  have own : ∀ id q, isOwn ((M.new o).get id) → updP φ M.next (some p) id = some (some q) → (id = M.next ∧ q = p) ∨ (id ≠ M.next ∧ isOwn (M.get id) ∧ φ id = some (some q)) := by
    intro id q ho hq
    simp only [Mem.get_new] at ho
    by_cases e : id = M.next
    · subst e; left; simpa using hq.symm
    · right
      rw [if_neg e] at ho
      exact ⟨e, ho, by simpa [updP, e] using hq⟩
  have lt : ∀ id q, isOwn (M.get id) → φ id = some (some q) → q.b < w.heap.size := by
    intro id q ho hq
    have := h.objs id
    cases hg : M.get id with
    | dead => rw [hg] at ho; exact ho.elim
    | ro => rw [hg] at ho; exact ho.elim
    | own e rs cells => rw [hg] at this; obtain ⟨p', hp', _, _, h2, _⟩ := this; rw [hq] at hp'; cases hp'; exact h2.lt
    | vec e n cols => rw [hg] at this; obtain ⟨_, p', hp', _, _, h2, _⟩ := this; rw [hq] at hp'; cases hp'; exact h2.lt
    | map es cl => rw [hg] at this; obtain ⟨p', hp', _, h2⟩ := this; rw [hq] at hp'; cases hp'; exact (Array.getElem?_eq_some_iff.1 h2).1
  refine ⟨⟨fun id => ?_, fun id id' q q' ho1 ho' hq hq' e => ?_, fun id q ho1 hq => ?_, fun id hid => ?_, ?_⟩, ⟨hle, fun _ h => updP_lt _ h, by simp, rfl, rfl, rfl, rfl, ?_, fun b hb' _ => push_same w ob b hb', fun id q ho1 hq hlt => ?_⟩⟩
  · simp only [Mem.get_new]
    split
    · rename_i e; subst e; exact ho
    · refine (h.objs id).step hle (fun b hb' => push_same w ob b (Nat.lt_of_lt_of_le hb' h.size)) (fun ho1 q hq => push_same w ob _ (lt id q ho1 hq))
  · rcases own id q ho1 hq with ⟨rfl, rfl⟩ | ⟨h1, h2, h3⟩ <;> rcases own id' q' ho' hq' with ⟨rfl, rfl⟩ | ⟨h4, h5, h6⟩
    · rfl
    · have := lt id' q' h5 h6; omega
    · have := lt id q h2 h3; omega
    · exact h.sep id id' q q' h2 h5 h3 h6 e
  · rcases own id q ho1 hq with ⟨rfl, rfl⟩ | ⟨h1, h2, h3⟩
    · rw [hb]; exact h.size
    · exact h.high id q h2 h3
  · simp only [Mem.next_new] at hid
    have hne : id ≠ M.next := by omega
    simp only [Mem.get_new, if_neg hne]
    obtain ⟨h1, h2⟩ := h.fresh id (by omega)
    exact ⟨h1, by simp [updP, hne, h2]⟩
  · have := h.size; rw [alloc_size]; omega
  · rw [alloc_size]; omega
  · rcases own id q ho1 hq with ⟨rfl, rfl⟩ | ⟨h1, h2, h3⟩
    · omega
    · exact ⟨id, q, h2, h3, rfl, fun h => h⟩

/-- What comes of an operation. -/
def Good (N : NB) (φ : Phi) (M : Mem) (w : World) (Q : AV × Mem → Prop) (v : Value) (w' : World) : Prop :=
  ∃ φ' x M', Q (x, M') ∧ AVRel φ' x v ∧ Rep N φ' M' w' ∧ Ext φ M w φ' M' w'
theorem Good.here {N : NB} {φ : Phi} {M : Mem} {w : World} {Q : AV × Mem → Prop} {v : Value} {x : AV} (hr : Rep N φ M w) (hq : Q (x, M)) (hv : AVRel φ x v) : Good N φ M w Q v w :=
  ⟨φ, x, M, hq, hv, hr, .refl _ _ _⟩

/-! ## Loads -/
theorem colGet_ok {N : NB} {φ : Phi} {M : Mem} {w : World} (hr : Rep N φ M w) {r : Nat} {col : Col} {z : Value} (hz : ColRel N w col r z) {Q : AV × Mem → Prop} {Qp : AV → Mem → Prop}
    (h : (colGet M r col).holds Q Qp) : Good N φ M w Q z w := by
  cases hz with
  | ci k l i => exact .here hr h (.i _ _)
  | cs l i => exact .here hr h (.s _)
  | cb l i => exact .here hr h (.b _)
  | cf k l i => exact .here hr h (.v _)
  | cl hh sub i A zf hlen hle hA h0 hb hz hc =>
    have key := hr.newRo (hh.getD r (true, 0, 0)).1 (hh.getD r (true, 0, 0)).2.1 (sub r) (A.map fun a => ⟨a.block, a.off, (sub r).length, (hh.getD r (true, 0, 0)).2.2, a.spot⟩) (by
      refine ⟨hlen, _, updP_self .., by rw [hA]; cases A <;> rfl, fun e => h0 (by simpa using e), fun p hp => ?_⟩
      cases A with
      | none => cases hp
      | some a =>
        cases hp
        refine ⟨rfl, hb a rfl, fun j hj c col hcol => ⟨zf j c, ?_, hc j hj c col hcol⟩⟩
        have := hz a rfl j hj c col hcol
        rw [← (hb a rfl (Nat.lt_of_le_of_lt (Nat.zero_le _) hj)).2] at this
        exact this)
    refine ⟨_, _, _, h, ?_, key.1, key.2⟩
    have e : A = (A.map fun a => (⟨a.block, a.off, (sub r).length, (hh.getD r (true, 0, 0)).2.2, a.spot⟩ : Pl)).map fun p => p.at 0 0 := by
      cases A with
      | none => rfl
      | some a => cases a; simp [Pl.at]
    generalize hh.getD r (true, 0, 0) = hd at *
    have := AVRel.sl (φ := updP φ M.next (A.map fun a => ⟨a.block, a.off, (sub r).length, hd.2.2, a.spot⟩)) M.next 0 hd.2.1 (some hd.2.2) _ hd.2.2 (updP_self ..) (fun h => h0 (by simpa using h)) (fun c h => by cases h; exact .self _) hle (fun p h => by cases A <;> cases h; simp) (fun p h hn => by
      cases A with
      | none => cases h
      | some a => cases h; exact (hb a rfl hn).2)
    rw [← e] at this
    exact this

theorem loadCell_ok {N : NB} {φ : Phi} {M : Mem} {w : World} (hr : Rep N φ M w) {id r c : Nat} {p : Pl} (hp : φ id = some (some p)) {Q : AV × Mem → Prop} {Qp : AV → Mem → Prop}
    (h : (loadCell M id r c).holds Q Qp) : ∃ z, w.cell? (p.at r c) = some z ∧ Good N φ M w Q z w := by
  have ho := hr.objs id
  unfold loadCell at h
  cases hg : M.get id with
  | dead => rw [hg] at h; exact h.elim
  | ro nil n cols =>
    rw [hg] at h ho
    obtain ⟨_, x, hx, _, _, hc⟩ := ho
    rw [hp] at hx; cases hx
    obtain ⟨_, _, h3⟩ := hc p rfl
    obtain ⟨h1, _⟩ := h
    cases hb : Nat.blt r n with
    | false => rename_i h2; exact (h2 hb).elim
    | true =>
      obtain ⟨col, hcol, hh⟩ := onO_ok (h1 hb)
      rw [nth?_eq] at hcol
      obtain ⟨z, hz, hrel⟩ := h3 r (Nat.le_of_ble_eq_true hb) c col hcol
      exact ⟨z, hz, colGet_ok hr hrel hh⟩
  | own elem rs cells =>
    rw [hg] at h ho
    obtain ⟨q, hq, h0, h1, h2, h3, h4⟩ := ho
    rw [hp] at hq; cases hq
    simp only [ownGet] at h
    rw [T.holds_bind] at h
    obtain ⟨x, hx, hq⟩ := sel_ok h
    obtain ⟨z, hz, hrel⟩ := h4 _ _ hx
    refine ⟨z, ?_, .here hr hq hrel⟩
    simpa [Pl.at, h0, h1] using hz
  | vec elem n cols =>
    rw [hg] at h ho
    obtain ⟨_, q, hq, h0, h1, h2, h3, h4⟩ := ho
    rw [hp] at hq; cases hq
    obtain ⟨h1', h2'⟩ := h
    cases hb : Nat.blt r n with
    | false => exact (h2' hb).elim
    | true =>
      obtain ⟨col, hcol, hh⟩ := onO_ok (h1' hb)
      rw [nth?_eq] at hcol
      obtain ⟨z, hz, hrel⟩ := h4 r (Nat.le_of_ble_eq_true hb) c col hcol
      exact ⟨z, hz, colGet_ok hr hrel hh⟩
  | map es cl => rw [hg] at h; exact h.elim
end Go.Eng

set_option autoImplicit false
namespace Go.Eng
open Go Go.RowKit

/-! ## Types -/
theorem at_eq (p : Pl) (hs : p.spot = none) (r c : Nat) : p.at r c = ⟨p.b, p.o + (r * p.rs + c), none⟩ := by unfold Pl.at; rw [hs]
def leafD : TypeDesc → Bool
  | .struct _ => false
  | .array _ _ => false
  | .interface _ => false
  | _ => true
def UndOk (P : Program) (t : TypeId) : Und → Prop
  | .sl e => P.underlying t = some (.slice e)
  | .arr n e => P.underlying t = some (.array n e)
  | .st fs => ∃ fds : Array Field, P.underlying t = some (.struct fds) ∧ fs = fds.toList.map (fun f => (f.offset, f.type, P.cellsOf f.type)) ∧ ∀ f ∈ fds.toList, (P.info? f.type).isSome = true
  | .str => P.underlying t = some .string
  | .leaf => ∃ d, P.underlying t = some d ∧ leafD d = true
  | .ifc => ∃ ms, P.underlying t = some (.interface ms)
  | .bad => True
def KindOk (P : Program) (t : TypeId) : CK → Prop
  | .int k => P.underlying t = some (.int k)
  | .str => P.underlying t = some .string
  | .bool => P.underlying t = some .bool
  | .flt => P.underlying t = some (.float .f64)
  | .ptr => ∃ e, P.underlying t = some (.pointer e)
  | .mp => ∃ k e, P.underlying t = some (.map k e)
  | .fnc => ∃ a b c, P.underlying t = some (.func a b c)
  | .other => True
structure TIok (P : Program) (t : TypeId) (ti : TI) : Prop where
  info : ∃ i z, P.info? t = some i ∧ i.size = ti.size ∧ i.bytes = ti.bytes ∧ i.zero = some z ∧ z.cells.toList.map lift1 = ti.zero ∧ z.cells.size = ti.size
  und : UndOk P t ti.u
  kind : KindOk P t ti.kind
  cmp : ti.cmp = true → P.stoodInHeld t = false ∧ P.eqGuardType P.depth t = false ∧ ∀ fds : Array Field, P.underlying t = some (.struct fds) → ∀ f ∈ fds.toList, f.name ≠ "_"
def TTok (P : Program) (tt : TT) : Prop := ∀ t, (tt t).u ≠ .bad → TIok P t (tt t)

theorem onK_ok {β : Type} {u : Und} {a l : T β} {Q : β → Prop} {Qp : AV → Mem → Prop} (h : (onK u a l).holds Q Qp) : u ≠ .bad ∧ ((∃ n e, u = .arr n e) ∨ (∃ fs, u = .st fs)) ∧ a.holds Q Qp ∨ u ≠ .bad ∧ ((∃ e, u = .sl e) ∨ u = .str ∨ u = .leaf ∨ u = .ifc) ∧ l.holds Q Qp := by
  cases u with
  | sl e => exact .inr ⟨by simp, .inl ⟨e, rfl⟩, h⟩
  | arr n e => exact .inl ⟨by simp, .inl ⟨n, e, rfl⟩, h⟩
  | st fs => exact .inl ⟨by simp, .inr ⟨fs, rfl⟩, h⟩
  | str => exact .inr ⟨by simp, .inr (.inl rfl), h⟩
  | leaf => exact .inr ⟨by simp, .inr (.inr (.inl rfl)), h⟩
  | ifc => exact .inr ⟨by simp, .inr (.inr (.inr rfl)), h⟩
  | bad => exact h.elim
theorem onK_both {β : Type} {u : Und} {a : T β} {Q : β → Prop} {Qp : AV → Mem → Prop} (h : (onK u a a).holds Q Qp) : u ≠ .bad ∧ a.holds Q Qp := by
  rcases onK_ok h with ⟨h1, _, h2⟩ | ⟨h1, _, h2⟩ <;> exact ⟨h1, h2⟩
theorem run_sizeOf' {P : Program} {t : TypeId} {ti : TI} (h : TIok P t ti) (w : World) : (sizeOf t).run P w = .ok ti.size w := by
  obtain ⟨i, z, hi, hs, _⟩ := h.info
  simp [sizeOf, typeInfo, hi, hs]
theorem cellsOf_eq {P : Program} {t : TypeId} {ti : TI} (h : TIok P t ti) : P.cellsOf t = ti.size := by
  obtain ⟨i, z, hi, hs, _⟩ := h.info
  simp [Program.cellsOf, hi, hs]
theorem run_isAgg_true {P : Program} {t : TypeId} {ti : TI} (h : TIok P t ti) (hu : (∃ n e, ti.u = .arr n e) ∨ (∃ fs, ti.u = .st fs)) (w : World) : (isAgg t).run P w = .ok true w := by
  have := h.und
  rcases hu with ⟨n, e, hu⟩ | ⟨fs, hu⟩ <;> rw [hu] at this
  · simp only [UndOk] at this; simp [isAgg, run_underlying this]
  · obtain ⟨fds, hf, _⟩ := this; simp [isAgg, run_underlying hf]
theorem run_isAgg_false {P : Program} {t : TypeId} {ti : TI} (h : TIok P t ti) (hu : (∃ e, ti.u = .sl e) ∨ ti.u = .str ∨ ti.u = .leaf ∨ ti.u = .ifc) (w : World) : (isAgg t).run P w = .ok false w := by
  have := h.und
  rcases hu with ⟨e, hu⟩ | hu | hu | hu <;> rw [hu] at this
  · simp only [UndOk] at this; simp [isAgg, run_underlying this]
  · simp only [UndOk] at this; simp [isAgg, run_underlying this]
  · obtain ⟨d, hd, hl⟩ := this
    cases d <;> simp [leafD] at hl <;> simp [isAgg, run_underlying hd]
  · obtain ⟨ms, hd⟩ := this; simp [isAgg, run_underlying hd]

theorem at_add (p : Pl) (hs : p.spot = none) (r c j : Nat) : (p.at r c).add j = p.at r (c + j) := by
  unfold Pl.at Addr.add
  rw [hs]
  split
  · rename_i h; subst h; rfl
  · simp; omega

theorem onC_ok {β : Type} {u : Und} {l : T β} {Q : β → Prop} {Qp : AV → Mem → Prop} (h : (onC u l).holds Q Qp) : u ≠ .bad ∧ u ≠ .ifc ∧ l.holds Q Qp := by
  cases u <;> first | exact h.elim | exact ⟨by simp, by simp, h⟩
theorem concrete {P : Program} {t : TypeId} {ti : TI} (h : TIok P t ti) (hb : ti.u ≠ .bad) (hi : ti.u ≠ .ifc) : ∃ d, P.underlying t = some d ∧ ∀ ms, d ≠ .interface ms := by
  have hu := h.und
  cases e : ti.u with
  | sl el => rw [e] at hu; exact ⟨_, hu, by simp⟩
  | arr n el => rw [e] at hu; exact ⟨_, hu, by simp⟩
  | st fs => rw [e] at hu; obtain ⟨fds, hf, _⟩ := hu; exact ⟨_, hf, by simp⟩
  | str => rw [e] at hu; exact ⟨_, hu, by simp⟩
  | leaf => rw [e] at hu; obtain ⟨d, hd, hl⟩ := hu; exact ⟨d, hd, by intro ms h; subst h; simp [leafD] at hl⟩
  | ifc => exact (hi e).elim
  | bad => exact (hb e).elim

/-! ## Loads -/
theorem loadCells_ok {N : NB} {w : World} {id r : Nat} {p : Pl} (n : Nat) : ∀ {φ : Phi} {M : Mem} (_ : Rep N φ M w) (_ : φ id = some (some p)) {c : Nat} {Q : List AV × Mem → Prop} {Qp : AV → Mem → Prop}
    (_ : (loadCells id r n M c).holds Q Qp), ∃ zs : List Value, zs.length = n ∧ (∀ j v, zs[j]? = some v → w.cell? (p.at r (c + j)) = some v) ∧ ∃ φ' l M', Q (l, M') ∧ AVsRel φ' l zs ∧ Rep N φ' M' w ∧ Ext φ M w φ' M' w := by
  induction n with
  | zero => intro φ M hr hp c Q Qp h; exact ⟨[], rfl, by simp, φ, [], M, h, .nil, hr, .refl _ _ _⟩
  | succ n ih =>
    intro φ M hr hp c Q Qp h
    have h' : ((loadCell M id r c).bind fun x => (loadCells id r n x.2 (c + 1)).bind fun y => .ret (x.1 :: y.1, y.2)).holds Q Qp := h
    rw [T.holds_bind] at h'
    obtain ⟨z, hz, φ1, x, M1, hq, hx, hr1, he1⟩ := loadCell_ok hr hp h'
    simp only [T.holds_bind] at hq
    obtain ⟨zs, hl, hc, φ2, l, M2, hq2, hl2, hr2, he2⟩ := ih hr1 (he1.phi _ _ hp) hq
    refine ⟨z :: zs, by simp [hl], ?_, φ2, x :: l, M2, hq2, .cons (hx.mono he2.phi) hl2, hr2, he1.trans he2⟩
    intro j v hj
    cases j with
    | zero => simp at hj; subst hj; simpa using hz
    | succ j => simp at hj; have := hc j v hj; rwa [show c + 1 + j = c + (j + 1) by omega] at this

theorem evLoad_ok {P : Program} {tt : TT} (tok : TTok P tt) {N : NB} {φ : Phi} {M : Mem} {w : World} (hr : Rep N φ M w) {t : TypeId} {x : AV} {y : Value} (hx : AVRel φ x y) {Q : AV × Mem → Prop} {Qp : AV → Mem → Prop}
    (h : (evLoad (tt t) M x).holds Q Qp) : ∃ z, (Instr.loadAt t y).run P w = .ok z w ∧ Good N φ M w Q z w := by
  cases hx with
  | ptr id r c p hp hps =>
    have h' : (evLoad1 (tt t) M id r c).holds Q Qp := h
    rcases onK_ok h' with ⟨hb, hu, h1⟩ | ⟨hb, hu, h1⟩
    · have ti := tok t hb
      rw [T.holds_bind] at h1
      obtain ⟨zs, hl, hc, φ', l, M', hq, hrel, hr', he⟩ := loadCells_ok _ hr hp h1
      refine ⟨.agg zs.toArray, ?_, φ', .agg l, M', hq, .agg _ _ (by simpa using hrel), hr', he⟩
      have := run_loadCells_list (P := P) (w := w) (p.at r c) zs (fun j v hj => by rw [at_add _ hps]; exact hc j v hj)
      rw [hl] at this
      simp [Instr.loadAt, Instr.sureAddr, loadVar, run_isAgg_true ti hu, run_sizeOf' ti, this]
    · have ti := tok t hb
      obtain ⟨z, hz, hg⟩ := loadCell_ok hr hp h1
      refine ⟨z, ?_, hg⟩
      simp [Instr.loadAt, Instr.sureAddr, loadVar, run_isAgg_false ti hu, hz]
  | _ => exact h.elim

/-! ## Stores -/
theorem br_ok {α : Type} {b : Bool} {t : T α} {Q : α → Prop} {Qp : AV → Mem → Prop} (h : (T.br b t .fail).holds Q Qp) : b = true ∧ t.holds Q Qp := by
  obtain ⟨h1, h2⟩ := h
  cases b with
  | false => exact (h2 rfl).elim
  | true => exact ⟨rfl, h1 rfl⟩
theorem leafA_one {φ : Phi} {x : AV} {z : Value} (h : leafA x = true) (hz : AVRel φ x z) : z.oneCell' = true := by
  cases hz with
  | v => cases z <;> first | rfl | exact absurd h (by simp [leafA, leafV])
  | agg => exact absurd h (by simp [leafA])
  | tup => exact absurd h (by simp [leafA])
  | top => exact absurd h (by simp [leafA])
  | _ => rfl

theorem setCell_other_block (w : World) (a : Addr) (z : Value) (b : Nat) (h : a.block ≠ b) : (w.setCell a z).heap[b]? = w.heap[b]? := by
  simp only [World.setCell, Array.getElem?_modify, if_neg h]
theorem setCell_block (w : World) (b o : Nat) (z : Value) (cur : Array Value) (e : TypeId) (f : Nat × Nat) (h : w.heap[b]? = some (.cells cur e f)) :
    (w.setCell ⟨b, o, none⟩ z).heap[b]? = some (.cells (cur.setIfInBounds o z) e f) := by
  simp [World.setCell, Array.getElem?_modify, h]

/-- A column with another value in a row. -/
theorem colSet_ok {r : Nat} {col col' : Col} {x : AV} (h : colSet r col x = some col') : leafA x = true ∧ col'.len = col.len ∧ (∀ φ z, AVRel φ x z → z.oneCell' = true) ∧
    (r < col.len → ∀ φ z, AVRel φ x z → ∀ N w, ColRel N w col' r z) ∧ (∀ j y, j ≠ r → ∀ N w w', ColRel N w col j y → ColRel N w' col' j y) := by
  have gs : ∀ {α : Type} (l : List α) (a d : α), r < l.length → (l.set r a).getD r d = a := fun l a d hr => by rw [List.getD_eq_getElem?_getD, List.getElem?_set_self hr]; rfl
  have gn : ∀ {α : Type} (l : List α) (a d : α) (j : Nat), j ≠ r → (l.set r a).getD j d = l.getD j d := fun l a d j hj => by rw [List.getD_eq_getElem?_getD, List.getElem?_set_ne (Ne.symm hj), ← List.getD_eq_getElem?_getD]
  have no : ∀ {p : Prop}, (none : Option Col) = some col' → p := fun e => by cases e
  cases col with
  | ci k l =>
    cases x with
    | i k' m =>
      by_cases e : k = k'
      · subst e
        have h : (if k = k then some (Col.ci k (l.set r m)) else none) = some col' := h
        rw [if_pos rfl] at h; cases h
        refine ⟨rfl, by simp [Col.len], fun φ z hz => by cases hz; rfl, fun hr φ z hz N w => ?_, fun j y hj N w w' hy => ?_⟩
        · cases hz
          have := ColRel.ci (N := N) (w := w) k (l.set r m) r
          rwa [gs l m 0 hr] at this
        · cases hy
          have := ColRel.ci (N := N) (w := w') k (l.set r m) j
          rwa [gn l m 0 j hj] at this
      · have h : (if k = k' then some (Col.ci k (l.set r m)) else none) = some col' := h
        rw [if_neg e] at h; exact no h
    | _ => exact no h
  | cs l =>
    cases x with
    | s m =>
      cases h
      refine ⟨rfl, by simp [Col.len], fun φ z hz => by cases hz; rfl, fun hr φ z hz N w => ?_, fun j y hj N w w' hy => ?_⟩
      · cases hz
        have := ColRel.cs (N := N) (w := w) (l.set r m) r
        rwa [gs l m ByteArray.empty hr] at this
      · cases hy
        have := ColRel.cs (N := N) (w := w') (l.set r m) j
        rwa [gn l m ByteArray.empty j hj] at this
    | _ => exact no h
  | cb l =>
    cases x with
    | b m =>
      cases h
      refine ⟨rfl, by simp [Col.len], fun φ z hz => by cases hz; rfl, fun hr φ z hz N w => ?_, fun j y hj N w w' hy => ?_⟩
      · cases hz
        have := ColRel.cb (N := N) (w := w) (l.set r m) r
        rwa [gs l m false hr] at this
      · cases hy
        have := ColRel.cb (N := N) (w := w') (l.set r m) j
        rwa [gn l m false j hj] at this
    | _ => exact no h
  | cf k l =>
    cases x with
    | v v =>
      cases v with
      | float k' m =>
        by_cases e : k = k'
        · subst e
          have h : (if k = k then some (Col.cf k (l.set r m)) else none) = some col' := h
          rw [if_pos rfl] at h; cases h
          refine ⟨rfl, by simp [Col.len], fun φ z hz => by cases hz; rfl, fun hr φ z hz N w => ?_, fun j y hj N w w' hy => ?_⟩
          · cases hz
            have := ColRel.cf (N := N) (w := w) k (l.set r m) r
            rwa [gs l m 0 hr] at this
          · cases hy
            have := ColRel.cf (N := N) (w := w') k (l.set r m) j
            rwa [gn l m 0 j hj] at this
        · have h : (if k = k' then some (Col.cf k (l.set r m)) else none) = some col' := h
          rw [if_neg e] at h; exact no h
      | _ => exact no h
    | _ => exact no h
  | cl hh sub => cases x <;> exact no h
theorem storeCell_ok {P : Program} {N : NB} {φ : Phi} {M : Mem} {w : World} (hr : Rep N φ M w) {id r c : Nat} {p : Pl} (hp : φ id = some (some p)) {x : AV} {z : Value} (hx : AVRel φ x z)
    {Q : Mem → Prop} {Qp : AV → Mem → Prop} (h : (storeCell M id r c x).holds Q Qp) :
    (store (p.at r c) z).run P w = .ok () (w.setCell (p.at r c) z) ∧ ∃ M', Q M' ∧ Rep N φ M' (w.setCell (p.at r c) z) ∧ Ext φ M w φ M' (w.setCell (p.at r c) z) := by
  have ho := hr.objs id
  unfold storeCell at h
  cases hg : M.get id with
  | dead => rw [hg] at h; exact h.elim
  | ro nil n cols => rw [hg] at h; exact h.elim
  | map es cl => rw [hg] at h; exact h.elim
  | vec elem n cols =>
    rw [hg] at h ho
    have hb0 : Nat.ble M.lock id = true ∧ (T.br (Nat.blt r n) (onO (nth? cols c) fun col => onO (colSet r col x) fun col' => (.ret (M.set id (.vec elem n (cols.set c col'))) : T Mem)) .fail).holds Q Qp := h
    obtain ⟨hb, h⟩ := hb0
    obtain ⟨hrn, h⟩ := br_ok h
    obtain ⟨col, hcol, h⟩ := onO_ok h
    obtain ⟨col', hcol', hq0⟩ := onO_ok h
    have hq : Q (M.set id (.vec elem n (cols.set c col'))) := hq0
    rw [nth?_eq] at hcol
    have hrn : r < n := by simpa [Nat.blt_eq] using hrn
    have hlock : M.lock ≤ id := Nat.le_of_ble_eq_true hb
    obtain ⟨hlen, q, hq', ⟨h0, hps⟩, h1', hown, hnk, hcell⟩ := ho
    rw [hp] at hq'; cases hq'
    have hclt : c < cols.length := (List.getElem?_eq_some_iff.1 hcol).1
    have hat : ∀ r c, p.at r c = ⟨p.b, r * cols.length + c, none⟩ := fun r c => by simp [Pl.at, h0, h1', hps]
    obtain ⟨hl1, hlen', hone0, hself0, hrest0⟩ := colSet_ok hcol'
    have hone : z.oneCell' = true ∧ leafA x = true := ⟨hone0 _ _ hx, hl1⟩
    obtain ⟨z0, hz0, _⟩ := hcell r hrn c col hcol
    have hlt : r * cols.length + c < p.k * cols.length := by
      have : (r + 1) * cols.length ≤ p.k * cols.length := Nat.mul_le_mul_right _ (by omega)
      rw [Nat.add_mul, Nat.one_mul] at this; omega
    have hfree := hown.free hlt
    have hinj : ∀ j c', c' < cols.length → (j ≠ r ∨ c' ≠ c) → j * cols.length + c' ≠ r * cols.length + c := by
      intro j c' hc' hne e
      have hd : (j * cols.length + c') / cols.length = (r * cols.length + c) / cols.length := by rw [e]
      rw [Nat.mul_comm j, Nat.mul_comm r, Nat.mul_add_div (by omega), Nat.mul_add_div (by omega), Nat.div_eq_of_lt hc', Nat.div_eq_of_lt hclt] at hd
      have : j = r := by omega
      subst this
      rcases hne with hne | hne
      · exact hne rfl
      · omega
    have hrl : r < col.len := by rw [hlen c col hcol]; exact hrn
    have hself : ColRel N (w.setCell (p.at r c) z) col' r z := hself0 hrl _ _ hx _ _
    have hrest : ∀ j y, j ≠ r → ColRel N w col j y → ColRel N (w.setCell (p.at r c) z) col' j y := fun j y hj hy => hrest0 j y hj _ _ _ hy
    have hNb : N.n ≤ p.b := hr.high id p (by rw [hg]; trivial) hp
    have hbelow : SameBelow N w (w.setCell (p.at r c) z) := fun b hb => setCell_other_block _ _ _ _ (by rw [hat]; show p.b ≠ b; omega)
    have hown' : OwnBlock (w.setCell (p.at r c) z) p.b elem (p.k * cols.length) := by
      obtain ⟨cur, fz, hcur, hsz, hfz⟩ := hown
      have hblk := setCell_block w p.b (r * cols.length + c) z cur elem fz hcur
      rw [hat]
      exact ⟨_, fz, hblk, by simpa using hsz, hfz⟩
    have own1 : ∀ i1, isOwn ((M.set id (.vec elem n (cols.set c col'))).get i1) → isOwn (M.get i1) := fun i1 ho1 => by
      simp only [Mem.get_set] at ho1; split at ho1
      · rename_i e; rw [e, hg]; trivial
      · exact ho1
    refine ⟨by rw [run_store P w _ z _ hone.1, hz0]; rw [hat] at hz0 ⊢; simp [hfree], _, hq, ⟨fun id' => ?_, fun i1 i2 p1 p2 ho1 ho2 hp1 hp2 e => hr.sep i1 i2 p1 p2 (own1 _ ho1) (own1 _ ho2) hp1 hp2 e, fun i1 p1 ho1 hp1 => hr.high i1 p1 (own1 _ ho1) hp1, fun i1 hi1 => ?_, by simpa using hr.size⟩,
      ⟨.refl _, fun _ _ => rfl, Nat.le_refl _, rfl, rfl, rfl, rfl, by simp, fun b hb hno => ?_, fun i1 p1 ho1 hp1 hb => ⟨i1, p1, own1 _ ho1, hp1, rfl, fun h => h⟩⟩⟩
    · simp only [Mem.get_set]
      split
      · rename_i e; subst e
        refine ⟨fun c1 col1 h1 => ?_, p, hp, ⟨h0, hps⟩, by rw [List.length_set]; exact h1', by rw [List.length_set]; exact hown', hnk, fun j hj c1 col1 h1 => ?_⟩
        · by_cases hc : c1 = c
          · subst hc
            rw [List.getElem?_set_self hclt] at h1; cases h1
            rw [hlen']; exact hlen c1 col hcol
          · rw [List.getElem?_set_ne (Ne.symm hc)] at h1; exact hlen c1 col1 h1
        · have hc1 : c1 < cols.length := by have := (List.getElem?_eq_some_iff.1 h1).1; rwa [List.length_set] at this
          by_cases hc : c1 = c
          · subst hc
            rw [List.getElem?_set_self hclt] at h1; cases h1
            by_cases hj1 : j = r
            · subst hj1
              exact ⟨z, World.cell?_setCell_same _ _ _ hz0, hself⟩
            · obtain ⟨z1, hz1, hr1⟩ := hcell j hj c1 col hcol
              refine ⟨z1, (World.cell?_setCell_other _ _ _ _ ?_).trans hz1, hrest j z1 hj1 hr1⟩
              rw [hat, hat]; intro e; injection e with _ e; exact hinj j c1 hclt (.inl hj1) e.symm
          · rw [List.getElem?_set_ne (Ne.symm hc)] at h1
            obtain ⟨z1, hz1, hr1⟩ := hcell j hj c1 col1 h1
            refine ⟨z1, (World.cell?_setCell_other _ _ _ _ ?_).trans hz1, hr1.same hbelow⟩
            rw [hat, hat]; intro e; injection e with _ e; exact hinj j c1 hc1 (.inr hc) e.symm
      · rename_i hne
        refine (hr.objs id').step (.refl _) (fun b hb => hbelow b hb) (fun ho' p' hp' => setCell_other_block _ _ _ _ ?_)
        rw [hat]
        intro e
        exact hne (hr.sep id' id p' p ho' (by rw [hg]; trivial) hp' hp e.symm)
    · simp only [Mem.next_set] at hi1
      obtain ⟨f1, f2⟩ := hr.fresh i1 hi1
      simp only [Mem.get_set]
      split
      · rename_i e; subst e; rw [hp] at f2; cases f2
      · exact ⟨f1, f2⟩
    · exact setCell_other_block _ _ _ _ (by rw [hat]; exact hno id p hlock (by rw [hg]; trivial) hp)
  | own elem rs cells =>
    rw [hg] at h ho
    obtain ⟨hb, hc, hq0⟩ := h
    cases hbb : Nat.ble M.lock id with
    | false => rw [hbb] at hb; cases hb
    | true =>
      cases hcc : leafA x && Nat.blt (r * rs + c) cells.length with
      | false => rw [hcc] at hc; cases hc
      | true =>
        have hq : Q (M.set id (.own elem rs (cells.set (r * rs + c) x))) := hq0
        obtain ⟨hl, hlt⟩ := Bool.and_eq_true_iff.1 hc
        have hlt : r * rs + c < cells.length := Nat.le_of_ble_eq_true hlt
        have hlock : M.lock ≤ id := Nat.le_of_ble_eq_true hb
        obtain ⟨q, hq', ⟨h0, hps⟩, h1', hown, hlen, hcell⟩ := ho
        rw [hp] at hq'; cases hq'
        have hat : p.at r c = ⟨p.b, r * rs + c, none⟩ := by simp [Pl.at, h0, h1', hps]
        have hone := leafA_one hl hx
        obtain ⟨z0, hz0, _⟩ := hcell (r * rs + c) _ (List.getElem?_eq_getElem hlt)
        have hfree := hown.free (Nat.lt_of_lt_of_le hlt hlen)
        rw [hat]
        obtain ⟨cur, fz, hcur, hsz, hfz⟩ := hown
        have hblk := setCell_block w p.b (r * rs + c) z cur elem fz hcur
        refine ⟨by rw [run_store P w _ z _ hone, hz0]; simp [hfree], _, hq, ⟨fun id' => ?_, fun i1 i2 p1 p2 ho1 ho2 hp1 hp2 e => ?_, fun i1 p1 ho1 hp1 => ?_, fun i1 hi1 => ?_, by simpa using hr.size⟩,
          ⟨.refl _, fun _ _ => rfl, Nat.le_refl _, rfl, rfl, rfl, rfl, by simp, fun b hb hno => ?_, fun i1 p1 ho1 hp1 hb => ?_⟩⟩
        · simp only [Mem.get_set]
          split
          · rename_i e; subst e
            refine ⟨p, hp, ⟨h0, hps⟩, h1', ⟨_, fz, hblk, by simpa using hsz, hfz⟩, by simpa using hlen, fun j a ha => ?_⟩
            by_cases hj : j = r * rs + c
            · subst hj
              rw [List.getElem?_set_self hlt] at ha
              cases ha
              exact ⟨z, World.cell?_setCell_same _ _ _ hz0, hx⟩
            · rw [List.getElem?_set_ne (Ne.symm hj)] at ha
              obtain ⟨z1, hz1, hr1⟩ := hcell j a ha
              exact ⟨z1, (World.cell?_setCell_other _ _ _ _ (by intro e; injection e with _ e; exact hj e.symm)).trans hz1, hr1⟩
          · rename_i hne
            refine (hr.objs id').step (.refl _) (fun b hb => setCell_other_block _ _ _ _ ?_) (fun ho' p' hp' => setCell_other_block _ _ _ _ ?_)
            · have := hr.high id p (by rw [hg]; trivial) hp
              show p.b ≠ b; omega
            · intro e
              exact hne (hr.sep id' id p' p ho' (by rw [hg]; trivial) hp' hp e.symm)
        · have k1 : isOwn (M.get i1) := by
            simp only [Mem.get_set] at ho1; split at ho1
            · rename_i e; rw [e, hg]; trivial
            · exact ho1
          have k2 : isOwn (M.get i2) := by
            simp only [Mem.get_set] at ho2; split at ho2
            · rename_i e; rw [e, hg]; trivial
            · exact ho2
          exact hr.sep i1 i2 p1 p2 k1 k2 hp1 hp2 e
        · have k1 : isOwn (M.get i1) := by
            simp only [Mem.get_set] at ho1; split at ho1
            · rename_i e; rw [e, hg]; trivial
            · exact ho1
          exact hr.high i1 p1 k1 hp1
        · simp only [Mem.next_set] at hi1
          obtain ⟨f1, f2⟩ := hr.fresh i1 hi1
          simp only [Mem.get_set]
          split
          · rename_i e; subst e; rw [hp] at f2; cases f2
          · exact ⟨f1, f2⟩
        · exact setCell_other_block _ _ _ _ (hno id p hlock (by rw [hg]; trivial) hp)
        · have k1 : isOwn (M.get i1) := by
            simp only [Mem.get_set] at ho1; split at ho1
            · rename_i e; rw [e, hg]; trivial
            · exact ho1
          exact ⟨i1, p1, k1, hp1, rfl, fun h => h⟩

theorem storeCells_ok {P : Program} {N : NB} {id r : Nat} {p : Pl} {φ : Phi} (hp : φ id = some (some p)) (hps : p.spot = none) (l : List AV) : ∀ {zs : List Value} (_ : AVsRel φ l zs) (i : Nat) {M : Mem} {w : World} (_ : Rep N φ M w) {c : Nat}
    {Q : Mem → Prop} {Qp : AV → Mem → Prop} (_ : (storeCells id r l M (c + i)).holds Q Qp),
    ∃ w' M', (Go.storeCells (p.at r c) zs i).run P w = .ok () w' ∧ Q M' ∧ Rep N φ M' w' ∧ Ext φ M w φ M' w' := by
  induction l with
  | nil => intro zs hz i M w hr c Q Qp h; cases hz; exact ⟨w, M, rfl, h, hr, .refl _ _ _⟩
  | cons x l ih =>
    intro zs hz i M w hr c Q Qp h
    cases hz with
    | cons hx ht =>
      rename_i z zs
      have h' : ((storeCell M id r (c + i) x).bind fun M => storeCells id r l M (c + i + 1)).holds Q Qp := h
      rw [T.holds_bind] at h'
      obtain ⟨hrun, M1, hq, hr1, he1⟩ := storeCell_ok (P := P) hr hp hx h'
      rw [show c + i + 1 = c + (i + 1) by omega] at hq
      obtain ⟨w2, M2, hrun2, hq2, hr2, he2⟩ := ih ht (i + 1) hr1 hq
      refine ⟨w2, M2, ?_, hq2, hr2, he1.trans he2⟩
      rw [Go.storeCells]
      simp only [at_add p hps, Sem.run_bind, hrun, Result.andThen_ok]
      exact hrun2

theorem AVRel.cells {φ : Phi} {x : AV} {z : Value} (h : AVRel φ x z) (ht : x ≠ .top) (hv : ∀ y, x = .v y → leafV y = true) : AVsRel φ x.cells z.cells.toList := by
  cases h with
  | agg l a h => exact h
  | top => exact (ht rfl).elim
  | v =>
    have := hv z rfl
    cases z <;> first | (simp [leafV] at this; done) | exact .cons (.v _) .nil
  | i => exact .cons (.i _ _) .nil
  | b => exact .cons (.b _) .nil
  | s => exact .cons (.s _) .nil
  | ptr id r c p hp hps => exact .cons (.ptr _ _ _ _ hp hps) .nil
  | sl id r n cap x cc h1 h2 h3 h4 h5 h6 => exact .cons (.sl _ _ _ _ _ _ h1 h2 h3 h4 h5 h6) .nil
  | e => exact .cons (.e _ _) .nil
  | mp id p hp => exact .cons (.mp _ _ hp) .nil
  | fn f l a h => exact .cons (.fn _ _ _ h) .nil
  | ifc t x y h => exact .cons (.ifc _ _ _ h) .nil
  | tup l a h => exact .cons (.tup _ _ h) .nil
end Go.Eng

set_option autoImplicit false
namespace Go.Eng
open Go Go.RowKit

/-! ## New variables -/
theorem allLeaf_ok {l : List AV} (h : allLeaf l = true) : ∀ x ∈ l, leafA x = true := by
  induction l with
  | nil => intro x hx; cases hx
  | cons a l ih =>
    have h' : (@Bool.rec (fun _ => Bool) false (allLeaf l) (leafA a)) = true := h
    intro x hx
    cases ha : leafA a with
    | false => rw [ha] at h'; cases h'
    | true =>
      rw [ha] at h'
      rcases List.mem_cons.1 hx with rfl | hx
      · exact ha
      · exact ih h' x hx

theorem newOwn_ok {P : Program} {N : NB} {φ : Phi} {M : Mem} {w : World} (hr : Rep N φ M w) {e : TypeId} {rs : Nat} {l : List AV} {zs : Array Value} (hz : AVsRel φ l zs.toList)
    {Q : AV × Mem → Prop} {Qp : AV → Mem → Prop} (h : (newOwn M e rs l).holds Q Qp) :
    ∃ z w', (do pure (Value.pointer (some (← newRow e zs))) : Sem Value).run P w = .ok z w' ∧ Good N φ M w Q z w' := by
  obtain ⟨h1, h2⟩ := h
  cases hc : allLeaf l && Nat.beq l.length rs with
  | false => exact (h2 hc).elim
  | true =>
    have hq : Q (.ptr M.next 0 0, M.new (.own e rs l)) := h1 hc
    obtain ⟨_, hl⟩ := Bool.and_eq_true_iff.1 hc
    have hl : l.length = rs := Nat.eq_of_beq_eq_true hl
    have hsz : zs.size = rs := by rw [← hl, hz.length, Array.length_toList]
    have key := hr.newOwn (.own e rs l) (.cells zs e) ⟨w.heap.size, 0, rs, 1, none⟩ rfl (by
      refine ⟨_, updP_self .., ⟨rfl, rfl⟩, rfl, ⟨zs, _, alloc_new _ _, by simp [hsz], .inl rfl⟩, by simp [hl], fun j a ha => ?_⟩
      obtain ⟨y, hy, hrel⟩ := hz.get j a ha
      refine ⟨y, ?_, hrel.mono (updP_le _ (hr.fresh _ (Nat.le_refl _)).2)⟩
      show (w.alloc (.cells zs e)).cell? ⟨w.heap.size, j, none⟩ = some y
      simp only [World.cell?, alloc_new]
      simpa using hy)
    refine ⟨.pointer (some ⟨w.heap.size, 0, none⟩), w.alloc (.cells zs e), by simp [newRow, newObj, Sem.run], _, _, _, hq, ?_, key.1, key.2⟩
    have := AVRel.ptr (φ := updP φ M.next (some ⟨w.heap.size, 0, rs, 1, none⟩)) M.next 0 0 _ (updP_self ..) rfl
    simpa [Pl.at] using this

/-! ## What is reckoned without memory -/
theorem pureOf_run {α : Type} {P : Program} {s : Sem α} {a : α} (h : pureOf P s = some a) (w : World) : s.run P w = .ok a w := by
  induction s with
  | pure b => simp [pureOf] at h; subst h; rfl
  | program k ih => exact ih P (by simpa [pureOf] using h)
  | mark m k ih => exact ih (by simpa [pureOf] using h)
  | _ => simp [pureOf] at h

theorem wrapS_eq (k : IntKind) (m h n : Int) (hm : m = 2 ^ k.bits) (hh : h = 2 ^ (k.bits - 1)) (hs : k.signed = true) : wrapS m h n = k.wrap n := by
  unfold wrapS IntKind.wrap
  subst hm hh
  simp only [hs, Bool.true_and]
  by_cases c : (2 ^ (k.bits - 1) : Int) ≤ n % 2 ^ k.bits
  · simp [c]
  · simp [c]
theorem wr_eq (k : IntKind) (n : Int) : wr k n = k.wrap n := by
  cases k
  · exact wrapS_eq .i8 _ _ n rfl rfl rfl
  · exact wrapS_eq .i16 _ _ n rfl rfl rfl
  · exact wrapS_eq .i32 _ _ n rfl rfl rfl
  · exact wrapS_eq .i64 _ _ n rfl rfl rfl
  · simp [wr, IntKind.wrap, IntKind.signed, IntKind.bits]
  · simp [wr, IntKind.wrap, IntKind.signed, IntKind.bits]
  · simp [wr, IntKind.wrap, IntKind.signed, IntKind.bits]
  · simp [wr, IntKind.wrap, IntKind.signed, IntKind.bits]

/-- A value that is reckoned. -/
def Val (P : Program) (φ : Phi) (w : World) (Q : AV → Prop) (s : Sem Value) : Prop := ∃ z x, s.run P w = .ok z w ∧ Q x ∧ AVRel φ x z
theorem ck_ok {α : Type} {b : Bool} {t : T α} {Q : α → Prop} {Qp : AV → Mem → Prop} (h : (T.ck b t).holds Q Qp) : b = true ∧ t.holds Q Qp := h
theorem brn_ok {α : Type} {b : Bool} {t : T α} {Q : α → Prop} {Qp : AV → Mem → Prop} (h : (T.br b .fail t).holds Q Qp) : b = false ∧ t.holds Q Qp := by
  obtain ⟨h1, h2⟩ := h
  cases b with
  | true => exact (h1 rfl).elim
  | false => exact ⟨rfl, h2 rfl⟩
theorem Val.int {P : Program} {φ : Phi} {w : World} {Q : AV → Prop} {s : Sem Value} {k : IntKind} {n : Int} {Qp : AV → Mem → Prop} (h : (iRet k n).holds Q Qp) (hs : s = pure (.int k (k.wrap n))) : Val P φ w Q s := by
  subst hs
  have h : Q (.i k (wr k n)) := h
  rw [wr_eq] at h
  exact ⟨_, _, rfl, h, .i _ _⟩
theorem binI_ok {P : Program} {φ : Phi} {w : World} {op : BinOp} {t : TypeId} {k k' : IntKind} {a b : Int} (hk : isSh op = false → k = k') {Q : AV → Prop} {Qp : AV → Mem → Prop} (h : (binI op k a b).holds Q Qp) :
    Val P φ w Q (binOp op t (.int k a) (.int k' b)) := by
  cases op with
  | shl =>
    obtain ⟨h1, h2⟩ := brn_ok (show (bShl k a b).holds Q Qp from h)
    refine Val.int h2 ?_
    simp only [decide_eq_false_iff_not] at h1
    simp [binOp, Op.shift, h1]
  | shr =>
    obtain ⟨h1, h2⟩ := brn_ok (show (bShr k a b).holds Q Qp from h)
    simp only [decide_eq_false_iff_not] at h1
    exact ⟨_, _, by simp [binOp, Op.shift, h1], h2, .i _ _⟩
  | quo =>
    obtain rfl := hk rfl
    obtain ⟨h1, h2⟩ := brn_ok (show (bQuo k a b).holds Q Qp from h)
    refine Val.int h2 ?_
    have h1 : ¬ b = 0 := by simpa using h1
    simp [binOp, Op.intDiv, h1]
  | rem =>
    obtain rfl := hk rfl
    obtain ⟨h1, h2⟩ := brn_ok (show (bRem k a b).holds Q Qp from h)
    have h1 : ¬ b = 0 := by simpa using h1
    exact ⟨_, _, by simp [binOp, Op.intDiv, h1], h2, .i _ _⟩
  | add => obtain rfl := hk rfl; exact Val.int (show (bAdd k a b).holds Q Qp from h) (by simp [binOp, Op.intArith])
  | sub => obtain rfl := hk rfl; exact Val.int (show (bSub k a b).holds Q Qp from h) (by simp [binOp, Op.intArith])
  | mul => obtain rfl := hk rfl; exact Val.int (show (bMul k a b).holds Q Qp from h) (by simp [binOp, Op.intArith])
  | and => obtain rfl := hk rfl; exact Val.int (show (bAnd k a b).holds Q Qp from h) (by simp [binOp, Op.intBits])
  | or => obtain rfl := hk rfl; exact Val.int (show (bOr k a b).holds Q Qp from h) (by simp [binOp, Op.intBits])
  | xor => obtain rfl := hk rfl; exact Val.int (show (bXor k a b).holds Q Qp from h) (by simp [binOp, Op.intBits])
  | andNot => obtain rfl := hk rfl; exact Val.int (show (bAndNot k a b).holds Q Qp from h) (by simp [binOp, Op.intBits])
  | eql => obtain rfl := hk rfl; exact ⟨_, _, by simp [binOp, Op.intCmp], h, .b _⟩
  | neq => obtain rfl := hk rfl; exact ⟨_, _, by simp [binOp, Op.intCmp], h, .b _⟩
  | lss => obtain rfl := hk rfl; exact ⟨_, _, by simp [binOp, Op.intCmp], h, .b _⟩
  | leq => obtain rfl := hk rfl; exact ⟨_, _, by simp [binOp, Op.intCmp], h, .b _⟩
  | gtr => obtain rfl := hk rfl; exact ⟨_, _, by simp [binOp, Op.intCmp], h, .b _⟩
  | geq => obtain rfl := hk rfl; exact ⟨_, _, by simp [binOp, Op.intCmp], h, .b _⟩
theorem binS_ok {P : Program} {φ : Phi} {w : World} {op : BinOp} {t : TypeId} {a b : ByteArray} {Q : AV → Prop} {Qp : AV → Mem → Prop} (h : (binS op a b).holds Q Qp) :
    Val P φ w Q (binOp op t (.string a) (.string b)) := by
  cases op with
  | add =>
    obtain ⟨h1, h2⟩ := br_ok (show (sAdd a b).holds Q Qp from h)
    have h1 : a.size + b.size ≤ 9223372036854775807 := Nat.le_of_ble_eq_true h1
    refine ⟨_, _, ?_, h2, .s _⟩
    have : ¬ (((a.size + b.size : Nat) : Int) > IntKind.i64.max) := by
      have e : IntKind.i64.max = 9223372036854775807 := rfl
      rw [e]; omega
    simp only [binOp, Op.stringOp, if_neg this]
    rfl
  | eql => exact ⟨_, _, rfl, h, .b _⟩
  | neq => exact ⟨_, _, rfl, h, .b _⟩
  | lss => exact ⟨_, _, rfl, h, .b _⟩
  | leq => exact ⟨_, _, rfl, h, .b _⟩
  | gtr => exact ⟨_, _, rfl, h, .b _⟩
  | geq => exact ⟨_, _, rfl, h, .b _⟩
  | _ => exact h.elim

theorem Val.eq {P : Program} {φ : Phi} {w : World} {Q : AV → Prop} {s s' : Sem Value} (h : Val P φ w Q s) (e : s'.run P w = s.run P w) : Val P φ w Q s' := by
  obtain ⟨z, x, h1, h2, h3⟩ := h
  exact ⟨z, x, e.trans h1, h2, h3⟩
theorem onI_ok {β : Type} {x : AV} {f : IntKind → Int → T β} {Q : β → Prop} {Qp : AV → Mem → Prop} (h : (onI x f).holds Q Qp) : ∃ k n, x = .i k n ∧ (f k n).holds Q Qp := by
  cases x <;> first | exact h.elim | exact ⟨_, _, rfl, h⟩
theorem onB_ok {β : Type} {x : AV} {f : Bool → T β} {Q : β → Prop} {Qp : AV → Mem → Prop} (h : (onB x f).holds Q Qp) : ∃ n, x = .b n ∧ (f n).holds Q Qp := by
  cases x <;> first | exact h.elim | exact ⟨_, rfl, h⟩
theorem onS_ok {β : Type} {x : AV} {f : ByteArray → T β} {Q : β → Prop} {Qp : AV → Mem → Prop} (h : (onS x f).holds Q Qp) : ∃ n, x = .s n ∧ (f n).holds Q Qp := by
  cases x <;> first | exact h.elim | exact ⟨_, rfl, h⟩
theorem onV_ok {β : Type} {x : AV} {f : Value → T β} {Q : β → Prop} {Qp : AV → Mem → Prop} (h : (onV x f).holds Q Qp) : ∃ n, x = .v n ∧ (f n).holds Q Qp := by
  cases x <;> first | exact h.elim | exact ⟨_, rfl, h⟩
theorem onPtr_ok {β : Type} {x : AV} {f : Nat → Nat → Nat → T β} {Q : β → Prop} {Qp : AV → Mem → Prop} (h : (onPtr x f).holds Q Qp) : ∃ a b c, x = .ptr a b c ∧ (f a b c).holds Q Qp := by
  cases x <;> first | exact h.elim | exact ⟨_, _, _, rfl, h⟩
theorem onSl_ok {β : Type} {x : AV} {f : Nat → Nat → Nat → Option Nat → T β} {Q : β → Prop} {Qp : AV → Mem → Prop} (h : (onSl x f).holds Q Qp) : ∃ a b c d, x = .sl a b c d ∧ (f a b c d).holds Q Qp := by
  cases x <;> first | exact h.elim | exact ⟨_, _, _, _, rfl, h⟩
theorem onFn_ok {β : Type} {x : AV} {f : Fn → List AV → T β} {Q : β → Prop} {Qp : AV → Mem → Prop} (h : (onFn x f).holds Q Qp) : ∃ a b, x = .fn a b ∧ (f a b).holds Q Qp := by
  cases x <;> first | exact h.elim | exact ⟨_, _, rfl, h⟩
theorem onAgg_ok {β : Type} {x : AV} {f : List AV → T β} {Q : β → Prop} {Qp : AV → Mem → Prop} (h : (onAgg x f).holds Q Qp) : ∃ a, x = .agg a ∧ (f a).holds Q Qp := by
  cases x <;> first | exact h.elim | exact ⟨_, rfl, h⟩
theorem onTup_ok {β : Type} {x : AV} {f : List AV → T β} {Q : β → Prop} {Qp : AV → Mem → Prop} (h : (onTup x f).holds Q Qp) : ∃ a, x = .tup a ∧ (f a).holds Q Qp := by
  cases x <;> first | exact h.elim | exact ⟨_, rfl, h⟩

theorem Val.pure1 {P : Program} {φ : Phi} {w : World} {Q : AV → Prop} {s : Sem Value} {Qp : AV → Mem → Prop} (h : (onO (pureOf P s) fun v => .ret (lift1 v)).holds Q Qp) : Val P φ w Q s := by
  obtain ⟨a, ha, hq⟩ := onO_ok h
  exact ⟨a, _, pureOf_run ha w, hq, lift1_rel φ a⟩

theorem eqGuard_int {P : Program} {w : World} {op : BinOp} {t : TypeId} {x y : Operand} {k k' : IntKind} {a b : Int} : (eqGuard op t x y (.int k a) (.int k' b)).run P w = .ok () w := by cases op <;> rfl
theorem eqGuard_bool {P : Program} {w : World} {op : BinOp} {t : TypeId} {x y : Operand} {a b : Bool} : (eqGuard op t x y (.bool a) (.bool b)).run P w = .ok () w := by cases op <;> rfl
theorem eqGuard_str {P : Program} {w : World} {op : BinOp} {t : TypeId} {x y : Operand} {a b : ByteArray} : (eqGuard op t x y (.string a) (.string b)).run P w = .ok () w := by cases op <;> rfl
theorem equalIn_bool {P : Program} {w : World} {t : TypeId} (h : P.underlying t = some .bool) (d : Nat) (a b : Bool) : (Op.equalIn (d + 1) t (.bool a) (.bool b)).run P w = .ok (a == b) w := by
  simp [Op.equalIn, run_underlying h]
theorem equal_bool {P : Program} {w : World} {t : TypeId} (h : P.underlying t = some .bool) (a b : Bool) : (Op.equal t (.bool a) (.bool b)).run P w = .ok (a == b) w := equalIn_bool h 9999 a b

theorem binV_ok {P : Program} {φ : Phi} {w : World} {op : BinOp} {t : TypeId} {x y : Operand} {a b : Value} {Q : AV → Prop} {Qp : AV → Mem → Prop} (h : (binV P op t x y a b).holds Q Qp) : Val P φ w Q (do eqGuard op t x y a b; binOp op t a b) := by
  unfold binV at h
  split at h
  · rename_i k n k' m
    cases ha : isAr op with
    | false => rw [ha] at h; exact Val.pure1 h
    | true =>
      rw [ha] at h
      obtain ⟨hk, h2⟩ := br_ok (show (T.br (decide (k = k')) (binF op k n m) .fail).holds Q Qp from h)
      clear h
      have hk := of_decide_eq_true hk
      subst hk
      unfold binF at h2
      obtain ⟨hs, h⟩ := br_ok h2
      obtain ⟨r, hr⟩ := Option.isSome_iff_exists.1 hs
      rw [hr] at h
      refine ⟨_, _, ?_, h, .v _⟩
      have e : (eqGuard op t x y (.float k n) (.float k m)).run P w = .ok () w := by cases op <;> first | rfl | cases ha
      simp only [Sem.run_bind, e, Result.andThen_ok]
      exact run_float_arith w op t k n m r hr
  · exact Val.pure1 h
theorem binA_ok {P : Program} {tt : TT} (tok : TTok P tt) {φ : Phi} {w : World} {op : BinOp} {t : TypeId} (ht : (tt t).u ≠ .bad) {x y : Operand} {a b : AV} {u v : Value} (hu : AVRel φ a u) (hv : AVRel φ b v)
    {Q : AV → Prop} {Qp : AV → Mem → Prop} (h : (binA P (tt t).kind op t x y a b).holds Q Qp) : Val P φ w Q (do eqGuard op t x y u v; binOp op t u v) := by
  cases hu with
  | i k n =>
    obtain ⟨k', n', rfl, hh⟩ := onI_ok (show (onI b fun k' b => bif2 (isSh op) (binI op k n b) (.br (decide (k = k')) (binI op k n b) .fail)).holds Q Qp from h)
    cases hv
    refine Val.eq (binI_ok (op := op) (t := t) (k := k) (k' := k') (a := n) (b := n') (Qp := Qp) ?_ ?_) (by simp only [Sem.run_bind, eqGuard_int, Result.andThen_ok])
    · intro hs
      rw [hs] at hh
      exact of_decide_eq_true (br_ok (show (T.br (decide (k = k')) (binI op k n n') .fail).holds Q Qp from hh)).1
    · cases hs : isSh op with
      | true => rw [hs] at hh; exact hh
      | false => rw [hs] at hh; exact (br_ok (show (T.br (decide (k = k')) (binI op k n n') .fail).holds Q Qp from hh)).2
  | b n =>
    obtain ⟨n', rfl, hh⟩ := onB_ok (show (onB b (binB (tt t).kind op n)).holds Q Qp from h)
    cases hv
    have hk := (tok t ht).kind
    cases hc : (tt t).kind with
    | bool =>
      rw [hc] at hk hh
      have hh : (binB1 op n n').holds Q Qp := hh
      have hk : P.underlying t = some .bool := hk
      cases op with
      | eql => exact ⟨_, _, by simp only [Sem.run_bind, eqGuard_bool, Result.andThen_ok, binOp, equal_bool hk]; rfl, hh, .b _⟩
      | neq => exact ⟨_, _, by simp only [Sem.run_bind, eqGuard_bool, Result.andThen_ok, binOp, equal_bool hk]; rfl, hh, .b _⟩
      | _ => exact hh.elim
    | _ => rw [hc] at hh; exact hh.elim
  | s n =>
    obtain ⟨n', rfl, hh⟩ := onS_ok (show (onS b (binS op n)).holds Q Qp from h)
    cases hv
    exact Val.eq (binS_ok (t := t) hh) (by simp only [Sem.run_bind, eqGuard_str, Result.andThen_ok])
  | v =>
    obtain ⟨n', rfl, hh⟩ := onV_ok (show (onV b (binV P op t x y u)).holds Q Qp from h)
    cases hv
    exact binV_ok hh
  | _ => exact h.elim

theorem unA_ok {P : Program} {φ : Phi} {w : World} {op : UnOp} {a : AV} {u : Value} (hu : AVRel φ a u) {Q : AV → Prop} {Qp : AV → Mem → Prop} (h : (unA P op a).holds Q Qp) : Val P φ w Q (Op.unary op u) := by
  cases hu with
  | i k n =>
    cases op with
    | neg => exact Val.int (show (iRet k (0 - n)).holds Q Qp from h) (by simp [Op.unary, Op.intArith])
    | xor => exact Val.int (show (iRet k (BitVec.ofInt k.bits (bif k.signed then -1 else k.max) ^^^ BitVec.ofInt k.bits n).toNat).holds Q Qp from h) (by simp [Op.unary, Op.intBits, cond_eq_ite])
    | _ => exact h.elim
  | b n =>
    cases op with
    | not => exact ⟨_, _, rfl, h, .b _⟩
    | _ => exact h.elim
  | v => exact Val.pure1 h
  | _ => exact h.elim

theorem convA_ok {P : Program} {tt : TT} (tok : TTok P tt) {φ : Phi} {w : World} {s d : TypeId} (hd : (tt d).u ≠ .bad) (hs : ∃ e, P.underlying s = some e) {a : AV} {u : Value} (hu : AVRel φ a u) {Q : AV → Prop} {Qp : AV → Mem → Prop}
    (h : (convA P (tt d) s d a).holds Q Qp) : Val P φ w Q (convert s d u) := by
  obtain ⟨e, he⟩ := hs
  cases hu with
  | i k n =>
    have hk := (tok d hd).kind
    have h : (cvI P (tt d) s d k n).holds Q Qp := h
    unfold cvI at h
    cases hc : (tt d).kind with
    | int k' =>
      rw [hc] at h hk
      have hk : P.underlying d = some (.int k') := hk
      have h : (iRet k' n).holds Q Qp := h
      refine Val.eq (Val.int h rfl) ?_
      simp [convert, run_underlying he, run_underlying hk, Conv.intToInt]
    | flt => rw [hc] at h; exact Val.pure1 h
    | _ => rw [hc] at h; exact h.elim
  | s x => exact Val.pure1 h
  | v => exact Val.pure1 h
  | _ => exact h.elim

/-! ## Operations one by one -/
def GoodP (N : NB) (φ : Phi) (M : Mem) (w : World) (Qp : AV → Mem → Prop) (v : Value) (w' : World) : Prop :=
  ∃ φ' x M', Qp x M' ∧ AVRel φ' x v ∧ Rep N φ' M' w' ∧ Ext φ M w φ' M' w'
/-- How an operation ends. -/
def Out (P : Program) (N : NB) (φ : Phi) (M : Mem) (w : World) (Q : AV × Mem → Prop) (Qp : AV → Mem → Prop) (s : Sem Next) : Prop :=
  (∃ v w', (s.run P w = .ok (.value v) w' ∨ (s.run P w = .ok .skip w' ∧ v = undef)) ∧ Good N φ M w Q v w') ∨
  (∃ v w', s.run P w = .halt (.panic v) w' ∧ GoodP N φ M w Qp v w') ∨
  (∃ f args w', s.run P w = .ok (.enter f args) w' ∧ Calls P f args w' fun e w'' => (∃ v, e = .returned v ∧ Good N φ M w Q v w'') ∨ (∃ v, e = .panicked [{ v, recovered := false }] ∧ GoodP N φ M w Qp v w''))
def TmpsRel (φ : Phi) (st : Tmps) (tmps : Array Value) : Prop := ∀ t, AVRel φ (st t) (tmps.getD t undef)
theorem evA_rel {φ : Phi} {st : Tmps} {a : Act} (h : TmpsRel φ st a.tmps) (x : Operand) : AVRel φ (evA st x) (a.eval x) := by
  cases x with
  | tmp t => exact h t
  | const v => exact lift_rel φ v
  | global g => exact .v _
  | func f => exact .fn _ _ _ .nil

theorem Out.val {P : Program} {N : NB} {φ : Phi} {M : Mem} {w : World} {Q : AV × Mem → Prop} {Qp : AV → Mem → Prop} {s : Sem Value} {z : Value} {w' : World} (h : s.run P w = .ok z w') (hg : Good N φ M w Q z w') :
    Out P N φ M w Q Qp (do pure (.value (← s))) := .inl ⟨z, w', .inl (by simp [h]), hg⟩
theorem Out.ofVal {P : Program} {N : NB} {φ : Phi} {M : Mem} {w : World} (hr : Rep N φ M w) {Q : AV × Mem → Prop} {Qp : AV → Mem → Prop} {s : Sem Value} (h : Val P φ w (fun x => Q (x, M)) s) :
    Out P N φ M w Q Qp (do pure (.value (← s))) := by
  obtain ⟨z, x, h1, h2, h3⟩ := h
  exact .val h1 (.here hr h2 h3)
theorem retM_ok {M : Mem} {x : T AV} {Q : AV × Mem → Prop} {Qp : AV → Mem → Prop} (h : (retM M x).holds Q Qp) : x.holds (fun v => Q (v, M)) Qp := by
  unfold retM at h; rw [T.holds_bind] at h; exact h

theorem idx_ok {φ : Phi} {k : IntKind} {i : Int} {u : Value} (h : AVRel φ (.i k i) u) : u = .int k i := by cases h; rfl

theorem rsIs_ok {N : NB} {φ : Phi} {M : Mem} {w : World} (hr : Rep N φ M w) {id n : Nat} {t : T (AV × Mem)} {Q : AV × Mem → Prop} {Qp : AV → Mem → Prop} (h : (rsIs M id n t).holds Q Qp) :
    t.holds Q Qp ∧ ∀ p, φ id = some (some p) → p.rs = n := by
  have ho := hr.objs id
  unfold rsIs at h
  cases hg : M.get id with
  | dead => rw [hg] at h; exact h.elim
  | map es cl => rw [hg] at h; exact h.elim
  | ro nil n' cols =>
    rw [hg] at h ho
    obtain ⟨h1, h2⟩ := br_ok (show (T.br (Nat.beq cols.length n) t .fail).holds Q Qp from h)
    refine ⟨h2, fun p hp => ?_⟩
    obtain ⟨_, x, hx, _, _, hc⟩ := ho
    rw [hp] at hx; cases hx
    rw [(hc p rfl).1]; exact Nat.eq_of_beq_eq_true h1
  | own e rs cells =>
    rw [hg] at h ho
    obtain ⟨h1, h2⟩ := br_ok (show (T.br (Nat.beq rs n) t .fail).holds Q Qp from h)
    refine ⟨h2, fun p hp => ?_⟩
    obtain ⟨q, hq, _, h3, _⟩ := ho
    rw [hp] at hq; cases hq
    rw [h3]; exact Nat.eq_of_beq_eq_true h1
  | vec e n' cols =>
    rw [hg] at h ho
    obtain ⟨h1, h2⟩ := br_ok (show (T.br (Nat.beq cols.length n) t .fail).holds Q Qp from h)
    refine ⟨h2, fun p hp => ?_⟩
    obtain ⟨_, q, hq, _, h3, _⟩ := ho
    rw [hp] at hq; cases hq
    rw [h3]; exact Nat.eq_of_beq_eq_true h1

theorem evIndexAddr_ok {P : Program} {tt : TT} (tok : TTok P tt) {N : NB} {φ : Phi} {M : Mem} {w : World} (hr : Rep N φ M w) {t : TypeId} {x ix : AV} {y iy : Value} (hx : AVRel φ x y) (hi : AVRel φ ix iy)
    {Q : AV × Mem → Prop} {Qp : AV → Mem → Prop} (h : (evIndexAddr tt (tt t).u M x ix).holds Q Qp) : ∃ z, (Instr.indexAt t y iy).run P w = .ok z w ∧ Good N φ M w Q z w := by
  obtain ⟨k, i, rfl, h⟩ := onI_ok h
  obtain rfl := idx_ok hi
  cases hu : (tt t).u with
  | sl el =>
    rw [hu] at h
    obtain ⟨id, r, n, cap, rfl, h⟩ := onSl_ok (show (onSl x fun id r n _ => onK (tt el).u (rsIs M id (tt el).size (idxSl M i id r n)) (rsIs M id (tt el).size (idxSl M i id r n))).holds Q Qp from h)
    have ti := (tok t (by rw [hu]; simp)).und
    rw [hu] at ti
    have ti : P.underlying t = some (.slice el) := ti
    obtain ⟨hb, h⟩ := onK_both h
    obtain ⟨h, hrs⟩ := rsIs_ok hr h
    obtain ⟨h0, h⟩ := br_ok (show (T.br (decide (0 ≤ i)) (.br (decide (i < (n : Int))) (.ret (.ptr id (r + i.toNat) 0, M)) .fail) .fail).holds Q Qp from h)
    obtain ⟨h1, h⟩ := br_ok h
    simp only [decide_eq_true_eq] at h0 h1
    cases hx with
    | sl _ _ _ _ x cc hp hz hc hle hk hs =>
      cases x with
      | none => have := hz rfl; omega
      | some p =>
        have hps := hs p rfl (by omega)
        refine ⟨.pointer (some (p.at (r + i.toNat) 0)), ?_, .here hr h (.ptr _ _ _ _ hp hps)⟩
        have e : (p.at r 0).add (i.toNat * (tt el).size) = p.at (r + i.toNat) 0 := by
          rw [at_add p hps, at_eq p hps, at_eq p hps, hrs p hp]
          congr 1
          simp [Nat.add_mul]
        simp [Instr.indexAt, asIntOf, run_underlying ti, h0, h1, run_sizeOf' (tok el hb), e]
  | arr len el =>
    rw [hu] at h
    obtain ⟨id, r, c, rfl, h⟩ := onPtr_ok (show (onPtr x fun id r c => onK (tt el).u (idxArr M i len (tt el).size id r c) (idxArr M i len (tt el).size id r c)).holds Q Qp from h)
    have ti := (tok t (by rw [hu]; simp)).und
    rw [hu] at ti
    have ti : P.underlying t = some (.array len el) := ti
    obtain ⟨hb, h⟩ := onK_both h
    obtain ⟨h0, h⟩ := br_ok (show (T.br (decide (0 ≤ i)) (.br (decide (i < (len : Int))) (.ret (.ptr id r (c + i.toNat * (tt el).size), M)) .fail) .fail).holds Q Qp from h)
    obtain ⟨h1, h⟩ := br_ok h
    simp only [decide_eq_true_eq] at h0 h1
    cases hx with
    | ptr _ _ _ p hp hps =>
      refine ⟨.pointer (some (p.at r (c + i.toNat * (tt el).size))), ?_, .here hr h (.ptr _ _ _ _ hp hps)⟩
      simp [Instr.indexAt, asIntOf, Instr.sureAddr, run_underlying ti, h0, h1, run_sizeOf' (tok el hb), at_add p hps]
  | st fs => rw [hu] at h; exact h.elim
  | str => rw [hu] at h; exact h.elim
  | leaf => rw [hu] at h; exact h.elim
  | ifc => rw [hu] at h; exact h.elim
  | bad => rw [hu] at h; exact h.elim

theorem evIndex_ok {P : Program} {tt : TT} (tok : TTok P tt) {N : NB} {φ : Phi} {M : Mem} {w : World} (hr : Rep N φ M w) {t : TypeId} {x ix : AV} {y iy : Value} (hx : AVRel φ x y) (hi : AVRel φ ix iy)
    {Q : AV × Mem → Prop} {Qp : AV → Mem → Prop} (h : (evIndex tt (tt t).u M x ix).holds Q Qp) : ∃ z, (Instr.index t y iy).run P w = .ok z w ∧ Good N φ M w Q z w := by
  obtain ⟨k, i, rfl, h⟩ := onI_ok h
  obtain rfl := idx_ok hi
  cases hu : (tt t).u with
  | str =>
    rw [hu] at h
    obtain ⟨s, rfl, h⟩ := onS_ok (show (onS x fun s => .br (decide (0 ≤ i)) (.br (decide (i < (s.size : Int))) (.ret (.i .u8 (byteAt s i.toNat), M)) .fail) .fail).holds Q Qp from h)
    have ti := (tok t (by rw [hu]; simp)).und
    rw [hu] at ti
    have ti : P.underlying t = some .string := ti
    obtain ⟨h0, h⟩ := br_ok h
    obtain ⟨h1, h⟩ := br_ok h
    simp only [decide_eq_true_eq] at h0 h1
    cases hx
    refine ⟨_, ?_, .here hr h (.i _ _)⟩
    have hlt : i.toNat < s.size := by omega
    have e : s[i.toNat]? = some (s[i.toNat]'hlt) := by simp [hlt]
    have e2 : byteAt s i.toNat = ((s[i.toNat]'hlt).toNat : Int) := by
      unfold byteAt
      have : s.data.toList.getD i.toNat 0 = s[i.toNat]'hlt := by
        rw [List.getD_eq_getElem?_getD, Array.getElem?_toList, Array.getElem?_eq_getElem (by simpa using hlt)]
        rfl
      rw [this]
    simp [Instr.index, asIntOf, run_underlying ti, h0, e, e2]
  | arr len el =>
    rw [hu] at h
    obtain ⟨l, rfl, h⟩ := onAgg_ok (show (onAgg x fun l => .br (decide (0 ≤ i)) (.br (decide (i < (len : Int))) (onK (tt el).u .fail ((sel l (i.toNat * (tt el).size)).bind fun y => .ret (y, M))) .fail) .fail).holds Q Qp from h)
    have ti := (tok t (by rw [hu]; simp)).und
    rw [hu] at ti
    have ti : P.underlying t = some (.array len el) := ti
    obtain ⟨h0, h⟩ := br_ok h
    obtain ⟨h1, h⟩ := br_ok h
    simp only [decide_eq_true_eq] at h0 h1
    rcases onK_ok h with ⟨_, _, h⟩ | ⟨hb, hl, h⟩
    · exact h.elim
    rw [T.holds_bind] at h
    obtain ⟨v, hv, hq⟩ := sel_ok h
    cases hx with
    | agg _ a hrel =>
      obtain ⟨z, hz, hzr⟩ := hrel.get _ _ hv
      refine ⟨z, ?_, .here hr hq hzr⟩
      have hz : a[i.toNat * (tt el).size]? = some z := by simpa using hz
      simp [Instr.index, asIntOf, run_underlying ti, h0, h1, run_sizeOf' (tok el hb), part, run_isAgg_false (tok el hb) hl, hz]
  | sl el => rw [hu] at h; exact h.elim
  | st fs => rw [hu] at h; exact h.elim
  | leaf => rw [hu] at h; exact h.elim
  | ifc => rw [hu] at h; exact h.elim
  | bad => rw [hu] at h; exact h.elim

theorem onSt_ok {β : Type} {u : Und} {f : List (Nat × TypeId × Nat) → T β} {Q : β → Prop} {Qp : AV → Mem → Prop} (h : (onSt u f).holds Q Qp) : ∃ fs, u = .st fs ∧ (f fs).holds Q Qp := by
  cases u <;> first | exact h.elim | exact ⟨_, rfl, h⟩
theorem sizeOf_cells {P : Program} {t : TypeId} (h : P.cellsOf t ≠ 0) (w : World) : (sizeOf t).run P w = .ok (P.cellsOf t) w := by
  unfold Program.cellsOf at h ⊢
  cases hi : P.info? t with
  | none => simp [hi] at h
  | some i => simp [sizeOf, typeInfo, hi]
theorem evFieldAddr_ok {P : Program} {tt : TT} (tok : TTok P tt) {N : NB} {φ : Phi} {M : Mem} {w : World} (hr : Rep N φ M w) {t : TypeId} {x : AV} {y : Value} (hx : AVRel φ x y) {f : Nat}
    {Q : AV × Mem → Prop} {Qp : AV → Mem → Prop} (h : (evFieldAddr (tt t).u M x f).holds Q Qp) : ∃ z, (Instr.fieldAt t y f).run P w = .ok z w ∧ Good N φ M w Q z w := by
  obtain ⟨fs, hu, h⟩ := onSt_ok h
  obtain ⟨id, r, c, rfl, h⟩ := onPtr_ok h
  obtain ⟨fd, hfd, h⟩ := onO_ok h
  obtain ⟨hz, h⟩ := brn_ok h
  have ti := (tok t (by rw [hu]; simp)).und
  rw [hu] at ti
  obtain ⟨fds, hf, hfs, _⟩ := ti
  rw [nth?_eq, hfs, List.getElem?_map] at hfd
  cases hg : fds.toList[f]? with
  | none => rw [hg] at hfd; cases hfd
  | some fld =>
    rw [hg] at hfd
    obtain rfl := Option.some.inj hfd
    have hne : P.cellsOf fld.type ≠ 0 := Nat.ne_of_beq_eq_false hz
    cases hx with
    | ptr _ _ _ p hp hps =>
      refine ⟨.pointer (some (p.at r (c + fld.offset))), ?_, .here hr h (.ptr _ _ _ _ hp hps)⟩
      have hg' : fds[f]? = some fld := by simpa using hg
      simp [Instr.fieldAt, run_underlying hf, hg', Instr.sureAddr, fieldPlace, sizeOf_cells hne, hne, at_add p hps]
theorem evField_ok {P : Program} {tt : TT} (tok : TTok P tt) {N : NB} {φ : Phi} {M : Mem} {w : World} (hr : Rep N φ M w) {t : TypeId} {x : AV} {y : Value} (hx : AVRel φ x y) {f : Nat}
    {Q : AV × Mem → Prop} {Qp : AV → Mem → Prop} (h : (evField tt (tt t).u M x f).holds Q Qp) : ∃ z, (Instr.field t y f).run P w = .ok z w ∧ Good N φ M w Q z w := by
  obtain ⟨fs, hu, h⟩ := onSt_ok h
  obtain ⟨l, rfl, h⟩ := onAgg_ok h
  obtain ⟨fd, hfd, h⟩ := onO_ok h
  have ti := (tok t (by rw [hu]; simp)).und
  rw [hu] at ti
  obtain ⟨fds, hf, hfs, _⟩ := ti
  rw [nth?_eq, hfs, List.getElem?_map] at hfd
  cases hg : fds.toList[f]? with
  | none => rw [hg] at hfd; cases hfd
  | some fld =>
    rw [hg] at hfd
    obtain rfl := Option.some.inj hfd
    have hg' : fds[f]? = some fld := by simpa using hg
    cases hx with
    | agg _ a hrel =>
      rcases onK_ok h with ⟨hb, hl, h⟩ | ⟨hb, hl, h⟩
      · have hsz := cellsOf_eq (tok _ hb)
        refine ⟨.agg (a.extract fld.offset (fld.offset + (tt fld.type).size)), ?_, .here hr h (.agg _ _ ?_)⟩
        · simp [Instr.field, run_underlying hf, hg', asAgg, part, run_isAgg_true (tok _ hb) hl, run_sizeOf' (tok _ hb)]
        · have := (hrel.drop fld.offset).take (P.cellsOf fld.type)
          rw [hsz] at this
          simpa [Array.toList_extract, List.extract_eq_drop_take, hsz] using this
      · rw [T.holds_bind] at h
        obtain ⟨v, hv, hq⟩ := sel_ok h
        obtain ⟨z, hz, hzr⟩ := hrel.get _ _ hv
        have hz : a[fld.offset]? = some z := by simpa using hz
        refine ⟨z, ?_, .here hr hq hzr⟩
        simp [Instr.field, run_underlying hf, hg', asAgg, part, run_isAgg_false (tok _ hb) hl, hz]
end Go.Eng

set_option autoImplicit false
namespace Go.Eng
open Go Go.RowKit

/-! ## Aggregates and rows -/
theorem setAt_length (ps : List AV) : ∀ (l : List AV) (off : Nat), (setAt ps l off).length = l.length := by
  induction ps with
  | nil => intro l off; rfl
  | cons x ps ih => intro l off; show (setAt ps (l.set off x) (off + 1)).length = _; rw [ih]; simp
theorem AVsRel.set {φ : Phi} {l : List AV} {m : List Value} (h : AVsRel φ l m) (i : Nat) {x : AV} {y : Value} (hx : AVRel φ x y) : AVsRel φ (l.set i x) (m.set i y) := by
  induction l generalizing m i with
  | nil => cases h; simpa using AVsRel.nil
  | cons a l ih => cases h with
    | cons h t =>
      cases i with
      | zero => simpa using AVsRel.cons hx t
      | succ i => simpa using AVsRel.cons h (ih t i)
theorem setAt_rel {φ : Phi} (ps : List AV) : ∀ {zs : List Value} (_ : AVsRel φ ps zs) {l : List AV} {cs : Array Value} (_ : AVsRel φ l cs.toList) (off k : Nat),
    AVsRel φ (setAt ps l (off + k)) (((zs.zipIdx k).foldl (fun cs (x : Value × Nat) => cs.setIfInBounds (off + x.2) x.1) cs).toList) := by
  induction ps with
  | nil => intro zs hz l cs h off k; cases hz; exact h
  | cons x ps ih =>
    intro zs hz l cs h off k
    cases hz with
    | cons hx ht =>
      rename_i y zs
      have := ih ht (l := l.set (off + k) x) (cs := cs.setIfInBounds (off + k) y) (by simpa using h.set (off + k) hx) off (k + 1)
      exact this

theorem allLeaf_rel {φ : Phi} {x : AV} {z : Value} (hl : allLeaf x.cells = true) (h : AVRel φ x z) : AVsRel φ x.cells z.cells.toList :=
  h.cells (by intro e; rw [e] at hl; cases hl) (by
    intro y e; rw [e] at hl
    exact allLeaf_ok hl (.v y) (by simp [AV.cells]))

theorem layAll_ok {φ : Phi} {st : Tmps} {a : Act} (hst : TmpsRel φ st a.tmps) {place : Nat → Option (Nat × Nat)} {k : List AV → T (AV × Mem)} {Q : AV × Mem → Prop} {Qp : AV → Mem → Prop} (ps : List (Nat × Operand)) :
    ∀ {l : List AV} {cs : Array Value} (_ : AVsRel φ l cs.toList) (_ : (layAll place st ps l k).holds Q Qp),
      ∃ cs' l', Instr.fill place cs (ps.map fun p => (p.1, a.eval p.2)) = some cs' ∧ AVsRel φ l' cs'.toList ∧ l'.length = l.length ∧ (k l').holds Q Qp := by
  induction ps with
  | nil => intro l cs hl h; exact ⟨cs, l, rfl, hl, rfl, h⟩
  | cons p ps ih =>
    intro l cs hl h
    obtain ⟨q, hq, h⟩ := onO_ok (show (onO (place p.1) fun q => layPart q.1 q.2 (evA st p.2) l fun l => layAll place st ps l k).holds Q Qp from h)
    obtain ⟨hb, h⟩ := br_ok (show (T.br (allLeaf (evA st p.2).cells && (Nat.beq (evA st p.2).cells.length q.2 && Nat.ble (q.1 + q.2) l.length)) (layAll place st ps (setAt (evA st p.2).cells l q.1) k) .fail).holds Q Qp from h)
    obtain ⟨hlf, hb⟩ := Bool.and_eq_true_iff.1 hb
    obtain ⟨hn, hle⟩ := Bool.and_eq_true_iff.1 hb
    have hn : (evA st p.2).cells.length = q.2 := Nat.eq_of_beq_eq_true hn
    have hle : q.1 + q.2 ≤ l.length := Nat.le_of_ble_eq_true hle
    have hrel := allLeaf_rel hlf (evA_rel hst p.2)
    have hsz : (a.eval p.2).cells.size = q.2 := by rw [← hn, hrel.length, Array.length_toList]
    have hcs : l.length = cs.size := by rw [hl.length, Array.length_toList]
    have h2 := setAt_rel _ hrel hl q.1 0
    obtain ⟨cs', l', h3, h4, h5, h6⟩ := ih h2 h
    refine ⟨cs', l', ?_, h4, by rw [h5]; exact setAt_length .., h6⟩
    simp only [List.map_cons, Instr.fill, hq]
    rw [if_neg (by simp [hsz]; omega)]
    rw [← h3]
    congr 1
    rw [← Array.foldl_toList, Array.toList_zipIdx]

theorem evBuild_ok {P : Program} {tt : TT} (tok : TTok P tt) {N : NB} {φ : Phi} {M : Mem} {w : World} (hr : Rep N φ M w) {st : Tmps} {a : Act} (hst : TmpsRel φ st a.tmps) {t : TypeId} {ps : Array (Nat × Operand)}
    {Q : AV × Mem → Prop} {Qp : AV → Mem → Prop} (h : (evBuild tt (tt t) M st ps.toList).holds Q Qp) : ∃ z, (Instr.build t (ps.map fun (i, x) => (i, a.eval x))).run P w = .ok z w ∧ Good N φ M w Q z w := by
  have hmap : (ps.map fun (i, x) => (i, a.eval x)).toList = ps.toList.map fun p => (p.1, a.eval p.2) := by simp
  unfold evBuild at h
  cases hu : (tt t).u with
  | arr n el =>
    rw [hu] at h
    have ti := tok t (by rw [hu]; simp)
    obtain ⟨i, z, hi, _, _, hz, hzz, _⟩ := ti.info
    have hun := ti.und
    rw [hu] at hun
    have hun : P.underlying t = some (.array n el) := hun
    rcases onK_ok (show (onK (tt el).u .fail (layAll (fun i => some (i * (tt el).size, (tt el).size)) st ps.toList (tt t).zero fun l => .ret (.agg l, M))).holds Q Qp from h) with ⟨_, _, h⟩ | ⟨hb, _, h⟩
    · exact h.elim
    · obtain ⟨cs', l', h1, h2, h3, h4⟩ := layAll_ok hst ps.toList (cs := z.cells) (by rw [← hzz]; exact (by
        have := AVsRel.map (φ := φ) z.cells.toList lift1 id fun x _ => lift1_rel φ x
        simpa using this)) h
      refine ⟨.agg cs', ?_, .here hr h4 (.agg _ _ h2)⟩
      simp [Instr.build, zeroValue, typeInfo, hi, hz, run_underlying hun, run_sizeOf' (tok el hb)]
      rw [h1]; simp
  | st fs =>
    rw [hu] at h
    have ti := tok t (by rw [hu]; simp)
    obtain ⟨i, z, hi, _, _, hz, hzz, _⟩ := ti.info
    have hun := ti.und
    rw [hu] at hun
    obtain ⟨fds, hf, hfs, hfi⟩ := hun
    obtain ⟨cs', l', h1, h2, h3, h4⟩ := layAll_ok hst ps.toList (cs := z.cells) (by rw [← hzz]; exact (by
        have := AVsRel.map (φ := φ) z.cells.toList lift1 id fun x _ => lift1_rel φ x
        simpa using this)) (place := fun i => @Option.rec (Nat × TypeId × Nat) (fun _ => Option (Nat × Nat)) none (fun f => some (f.1, f.2.2)) (nth? fs i)) (show (layAll (fun i => @Option.rec (Nat × TypeId × Nat) (fun _ => Option (Nat × Nat)) none (fun f => some (f.1, f.2.2)) (nth? fs i)) st ps.toList (tt t).zero fun l => .ret (.agg l, M)).holds Q Qp from h)
    refine ⟨.agg cs', ?_, .here hr h4 (.agg _ _ h2)⟩
    have hlist : ∀ l : List Field, (∀ f ∈ l, (P.info? f.type).isSome = true) → (l.mapM (m := Sem) fun f => do pure (f.offset, ← sizeOf f.type)).run P w = .ok (l.map fun f => (f.offset, P.cellsOf f.type)) w := by
      intro l
      induction l with
      | nil => intro _; simp
      | cons f l ih =>
        intro hl
        obtain ⟨fi, hfi'⟩ := Option.isSome_iff_exists.1 (hl f (by simp))
        have hs : (sizeOf f.type).run P w = .ok (P.cellsOf f.type) w := by simp [sizeOf, typeInfo, hfi', Program.cellsOf]
        rw [List.mapM_cons]
        simp only [Sem.run_bind, hs, Result.andThen_ok, Sem.run_pure, ih (fun f hf => hl f (by simp [hf])), List.map_cons]
    have h5 := hlist fds.toList hfi
    have hplace : (fun i => @Option.rec (Nat × TypeId × Nat) (fun _ => Option (Nat × Nat)) none (fun f => some (f.1, f.2.2)) (nth? fs i)) = fun i => (fds.toList.map fun f => (f.offset, P.cellsOf f.type)).toArray[i]? := by
      funext i
      rw [nth?_eq, hfs, List.getElem?_map]
      simp only [List.getElem?_toArray, List.getElem?_map]
      cases fds.toList[i]? <;> rfl
    rw [hplace] at h1
    unfold Instr.build
    simp only [zeroValue, typeInfo, Sem.run_bind, run_underlying hf, hi, hz, Sem.run_pure, Result.andThen_ok, Array.mapM_eq_mapM_toList, bind_map_left, h5, program, Sem.run, hmap]
    simp only [h1, Sem.run_pure]
  | _ => rw [hu] at h; exact h.elim

theorem AVsRel.of_get {φ : Phi} {l : List AV} {m : List Value} (hl : l.length = m.length) (h : ∀ (i : Nat) x y, l[i]? = some x → m[i]? = some y → AVRel φ x y) : AVsRel φ l m := by
  induction l generalizing m with
  | nil => cases m with
    | nil => exact .nil
    | cons => simp at hl
  | cons a l ih => cases m with
    | nil => simp at hl
    | cons b m => exact .cons (h 0 a b rfl rfl) (ih (by simpa using hl) fun i x y hx hy => h (i + 1) x y (by simpa using hx) (by simpa using hy))
theorem rng0 : Array.range 0 = #[] := rfl
theorem tile_length (z : List AV) (n : Nat) : (tile z n).length = n * z.length := by
  induction n with
  | zero => rw [Nat.zero_mul]; rfl
  | succ n ih => show (z ++ tile z n).length = _; rw [List.length_append, ih, Nat.succ_mul]; omega
theorem tile_get (z : List AV) (n : Nat) : ∀ i, i < n * z.length → (tile z n)[i]? = z[i % z.length]? := by
  induction n with
  | zero => intro i h; simp at h
  | succ n ih =>
    intro i h
    show (z ++ tile z n)[i]? = _
    by_cases hi : i < z.length
    · rw [List.getElem?_append_left hi, Nat.mod_eq_of_lt hi]
    · rw [List.getElem?_append_right (by omega), ih _ (by rw [Nat.succ_mul] at h; omega)]
      congr 1
      rw [Nat.mod_eq_sub_mod (by omega : z.length ≤ i)]
theorem zero_tile {φ : Phi} {z : Value} {size n : Nat} (hs : z.cells.size = size) (h0 : 0 < size) : AVsRel φ (tile (z.cells.toList.map lift1) n) ((Array.range (n * size)).map (z.cells[· % z.cells.size]!)).toList := by
  have hl : (z.cells.toList.map lift1).length = size := by simp [hs]
  refine AVsRel.of_get (by rw [tile_length, hl]; simp) fun i x y hx hy => ?_
  have hi : i < n * size := by
    have := (List.getElem?_eq_some_iff.1 hx).1
    rwa [tile_length, hl] at this
  rw [tile_get _ _ _ (by rw [hl]; exact hi), hl] at hx
  have hlt : i % size < size := Nat.mod_lt _ h0
  simp only [List.getElem?_map] at hx
  simp only [Array.toList_map, List.getElem?_map, Array.toList_range, List.getElem?_range hi, Option.map_some, Option.some.injEq] at hy
  subst hy
  rw [hs]
  have : z.cells.toList[i % size]? = some (z.cells[i % size]!) := by
    rw [Array.getElem?_toList, Array.getElem?_eq_getElem (by rw [hs]; exact hlt)]
    simp [hs, hlt]
  rw [this] at hx
  obtain rfl := Option.some.inj hx
  exact lift1_rel _ _

/-- A new row of the call's own. -/
theorem newRowA_ok {P : Program} {N : NB} {φ : Phi} {M : Mem} {w : World} (hr : Rep N φ M w) {e : TypeId} {rs n : Nat} {l : List AV} {zs : Array Value} (hz : AVsRel φ l zs.toList)
    {Q : AV × Mem → Prop} {Qp : AV → Mem → Prop} (h : (newRowA M e rs n l).holds Q Qp) :
    (newRow e zs).run P w = .ok ⟨w.heap.size, 0, none⟩ (w.alloc (.cells zs e)) ∧ Good N φ M w Q (.slice (some ⟨w.heap.size, 0, none⟩) n n) (w.alloc (.cells zs e)) := by
  obtain ⟨hc, hq⟩ := br_ok h
  obtain ⟨_, hl⟩ := Bool.and_eq_true_iff.1 hc
  have hl : l.length = n * rs := Nat.eq_of_beq_eq_true hl
  have hsz : zs.size = n * rs := by rw [← hl, hz.length, Array.length_toList]
  have key := hr.newOwn (.own e rs l) (.cells zs e) ⟨w.heap.size, 0, rs, n, none⟩ rfl (by
    refine ⟨_, updP_self .., ⟨rfl, rfl⟩, rfl, ⟨zs, _, alloc_new _ _, hsz, .inl rfl⟩, Nat.le_of_eq hl, fun j a ha => ?_⟩
    obtain ⟨y, hy, hrel⟩ := hz.get j a ha
    refine ⟨y, ?_, hrel.mono (updP_le _ (hr.fresh _ (Nat.le_refl _)).2)⟩
    show (w.alloc (.cells zs e)).cell? ⟨w.heap.size, j, none⟩ = some y
    simp only [World.cell?, alloc_new]
    simpa using hy)
  refine ⟨by simp [newRow, newObj, Sem.run], _, _, _, hq, ?_, key.1, key.2⟩
  have := AVRel.sl (φ := updP φ M.next (some ⟨w.heap.size, 0, rs, n, none⟩)) M.next 0 n (some n) _ n (updP_self ..) (fun h => by cases h) (fun c h => by cases h; exact .self _) (Nat.le_refl _) (fun p h => by cases h; simp) (fun p h _ => by cases h; rfl)
  simpa [Pl.at] using this

theorem evBuildSlice_ok {P : Program} {tt : TT} (tok : TTok P tt) {N : NB} {φ : Phi} {M : Mem} {w : World} (hr : Rep N φ M w) {st : Tmps} {a : Act} (hst : TmpsRel φ st a.tmps) {t : TypeId} {n : Nat} {ps : Array (Nat × Operand)}
    {Q : AV × Mem → Prop} {Qp : AV → Mem → Prop} (h : (evBuildSlice tt (tt t).u M st n ps.toList).holds Q Qp) : ∃ z w', (Instr.buildSlice t n (ps.map fun (i, x) => (i, a.eval x))).run P w = .ok z w' ∧ Good N φ M w Q z w' := by
  have hmap : (ps.map fun (i, x) => (i, a.eval x)).toList = ps.toList.map fun p => (p.1, a.eval p.2) := by simp
  unfold evBuildSlice at h
  cases hu : (tt t).u with
  | sl el =>
    rw [hu] at h
    have ti := (tok t (by rw [hu]; simp)).und
    rw [hu] at ti
    have ti : P.underlying t = some (.slice el) := ti
    obtain ⟨hb, h⟩ := onK_both (show (onK (tt el).u (buildSl (tt el) M st el n ps.toList) (buildSl (tt el) M st el n ps.toList)).holds Q Qp from h)
    have te := tok el hb
    obtain ⟨i, z, hi, hs, _, hz, hzz, hzs⟩ := te.info
    obtain ⟨hc, h⟩ := br_ok h
    obtain ⟨h0, hle⟩ := Bool.and_eq_true_iff.1 hc
    have h0 : 0 < (tt el).size := Nat.le_of_ble_eq_true h0
    have hle : n * (tt el).size ≤ 16777216 := Nat.le_of_ble_eq_true hle
    obtain ⟨cs', l', h1, h2, h3, h4⟩ := layAll_ok hst ps.toList (l := tile (tt el).zero n) (by rw [← hzz]; exact zero_tile (n := n) hzs h0) h
    obtain ⟨h5, h6⟩ := newRowA_ok (P := P) hr h2 h4
    refine ⟨_, _, ?_, h6⟩
    unfold Instr.buildSlice
    have hgt : ¬ (n * (tt el).size > 2 ^ 24) := by
      have : (2 : Nat) ^ 24 = 16777216 := rfl
      omega
    by_cases hn : n * (tt el).size = 0
    · have hn0 : n = 0 := by
        rcases Nat.mul_eq_zero.1 hn with h | h
        · exact h
        · omega
      subst hn0
      simp only [Nat.zero_mul, rng0, Array.map_empty] at h1
      simp only [Sem.run_bind, run_underlying ti, Result.andThen_ok, run_sizeOf' te, Nat.zero_mul, gt_iff_lt, Nat.not_lt_zero, if_false, if_true, Sem.run_pure, rng0, Array.map_empty, hmap, h1, h5]
    · simp only [Sem.run_bind, run_underlying ti, Result.andThen_ok, run_sizeOf' te, hgt, if_false, hn, Sem.run_pure, zeroValue, typeInfo, program, Sem.run, hi, hz, hmap, h1, h5]
  | _ => rw [hu] at h; exact h.elim
/-- A new row of which the call names a part. -/
theorem newRowB_ok {P : Program} {N : NB} {φ : Phi} {M : Mem} {w : World} (hr : Rep N φ M w) {e : TypeId} {rs n c : Nat} (hnc : n ≤ c) {l : List AV} {zs : Array Value} (hz : AVsRel φ l zs.toList)
    {Q : AV × Mem → Prop} {Qp : AV → Mem → Prop} (h : (newRowB M e rs n c l).holds Q Qp) :
    (newRow e zs).run P w = .ok ⟨w.heap.size, 0, none⟩ (w.alloc (.cells zs e)) ∧ Good N φ M w Q (.slice (some ⟨w.heap.size, 0, none⟩) n c) (w.alloc (.cells zs e)) := by
  obtain ⟨hc, hq⟩ := br_ok h
  obtain ⟨_, hl⟩ := Bool.and_eq_true_iff.1 hc
  have hl : l.length = c * rs := Nat.eq_of_beq_eq_true hl
  have hsz : zs.size = c * rs := by rw [← hl, hz.length, Array.length_toList]
  have key := hr.newOwn (.own e rs l) (.cells zs e) ⟨w.heap.size, 0, rs, c, none⟩ rfl (by
    refine ⟨_, updP_self .., ⟨rfl, rfl⟩, rfl, ⟨zs, _, alloc_new _ _, hsz, .inl rfl⟩, Nat.le_of_eq hl, fun j a ha => ?_⟩
    obtain ⟨y, hy, hrel⟩ := hz.get j a ha
    refine ⟨y, ?_, hrel.mono (updP_le _ (hr.fresh _ (Nat.le_refl _)).2)⟩
    show (w.alloc (.cells zs e)).cell? ⟨w.heap.size, j, none⟩ = some y
    simp only [World.cell?, alloc_new]
    simpa using hy)
  refine ⟨by simp [newRow, newObj, Sem.run], _, _, _, hq, ?_, key.1, key.2⟩
  have := AVRel.sl (φ := updP φ M.next (some ⟨w.heap.size, 0, rs, c, none⟩)) M.next 0 n (some c) _ c (updP_self ..) (fun h => by cases h) (fun c h => by cases h; exact .self _) hnc (fun p h => by cases h; simp) (fun p h _ => by cases h; rfl)
  simpa [Pl.at] using this
theorem wrap64 {n : Int} (h : 0 ≤ n) (h2 : n ≤ 16777216) : IntKind.i64.wrap n = n := by
  rw [← wr_eq]
  show wrapS 18446744073709551616 9223372036854775808 n = n
  unfold wrapS
  cases hd : decide ((9223372036854775808 : Int) ≤ n % 18446744073709551616) with
  | true => have := of_decide_eq_true hd; omega
  | false => show n % 18446744073709551616 = n; omega
theorem evMakeSlice_ok {P : Program} {tt : TT} (tok : TTok P tt) {N : NB} {φ : Phi} {M : Mem} {w : World} (hr : Rep N φ M w) {t : TypeId} {x y : AV} {xv yv : Value} (hx : AVRel φ x xv) (hy : AVRel φ y yv)
    {Q : AV × Mem → Prop} {Qp : AV → Mem → Prop} (h : (evMakeSlice tt (tt t).u M x y).holds Q Qp) : ∃ z w', (Instr.makeSlice t xv yv).run P w = .ok z w' ∧ Good N φ M w Q z w' := by
  unfold evMakeSlice at h
  cases hu : (tt t).u with
  | sl el =>
    rw [hu] at h
    have ti := (tok t (by rw [hu]; simp)).und
    rw [hu] at ti
    have ti : P.underlying t = some (.slice el) := ti
    have h2 := onI_ok (show (onI x fun _ l => onI y fun _ c => onK (tt el).u (mkSl (tt el) M el l c) (mkSl (tt el) M el l c)).holds Q Qp from h)
    clear h
    obtain ⟨k1, l, rfl, h2⟩ := h2
    have h := onI_ok h2
    clear h2
    obtain ⟨k2, c, rfl, h⟩ := h
    obtain ⟨hb, h⟩ := onK_both h
    have te := tok el hb
    obtain ⟨i, z, hi, hs, hbt, hz, hzz, hzs⟩ := te.info
    obtain ⟨d0, h⟩ := br_ok h
    obtain ⟨d1, h⟩ := br_ok h
    obtain ⟨d2, h⟩ := br_ok h
    obtain ⟨hc, h⟩ := br_ok h
    have d0 := of_decide_eq_true d0
    have d1 := of_decide_eq_true d1
    have d2 := of_decide_eq_true d2
    obtain ⟨h0, hle⟩ := Bool.and_eq_true_iff.1 hc
    have h0 : 0 < (tt el).size := Nat.le_of_ble_eq_true h0
    have hle : c.toNat * (tt el).bytes ≤ 140737488355328 := Nat.le_of_ble_eq_true hle
    obtain ⟨h5, h6⟩ := newRowB_ok (P := P) hr (by omega : l.toNat ≤ c.toNat) (by rw [← hzz]; exact zero_tile (n := c.toNat) hzs h0) h
    cases hx with
    | i =>
      cases hy with
      | i =>
        refine ⟨_, _, ?_, h6⟩
        unfold Instr.makeSlice
        have hbig : ((i.bytes : Int) * c > 2 ^ 48) = False := by
          rw [hbt]
          have e : ((tt el).bytes : Int) * c = ((c.toNat * (tt el).bytes : Nat) : Int) := by
            rw [Int.natCast_mul, Int.toNat_of_nonneg (by omega), Int.mul_comm]
          rw [e]
          have : (2 : Int) ^ 48 = 281474976710656 := rfl
          rw [this]
          exact eq_false (by omega)
        have hroom : ¬ (c.toNat * i.bytes > roomBytes) := by
          rw [hbt]; show ¬ (c.toNat * (tt el).bytes > 2 ^ 47)
          have : (2 : Nat) ^ 47 = 140737488355328 := rfl
          omega
        have hbig2 : ¬ (281474976710656 < (i.bytes : Int) * c) := by
          have : (2 : Int) ^ 48 = 281474976710656 := rfl
          rw [this] at hbig
          intro hh; rw [hbig.symm]; exact hh
        have hn1 : ¬ c < 0 := by omega
        have hn2 : ¬ l < 0 := by omega
        have hn3 : ¬ l > c := by omega
        have rt : (typeInfo el).run P w = .ok i w := by simp [typeInfo, program, Sem.run, hi]
        have rz : (zeroValue el).run P w = .ok z w := by simp [zeroValue, typeInfo, program, Sem.run, hi, hz]
        have ra : ∀ (k : IntKind) (n : Int), (asIntOf (.int k n)).run P w = .ok (k, n) w := fun _ _ => rfl
        have ra' : ∀ (k : IntKind) (n : Int), (asInt (.int k n)).run P w = .ok n w := fun _ _ => by first | rfl | simp [asInt, ra]
        by_cases hn : c.toNat * (tt el).size = 0
        · have hn0 : c.toNat = 0 := by
            rcases Nat.mul_eq_zero.1 hn with h | h
            · exact h
            · omega
          rw [hn0] at h5 hroom
          simp only [Nat.zero_mul, rng0, Array.map_empty] at h5
          simp [run_underlying ti, run_sizeOf' te, rt, ra', wrap64 d0 (by omega), wrap64 (by omega : 0 ≤ c) d2, hbig2, hn1, hn2, hn3, hn0, askRoom, rng0, h5]
        · simp [run_underlying ti, run_sizeOf' te, rt, rz, ra', wrap64 d0 (by omega), wrap64 (by omega : 0 ≤ c) d2, hbig2, hn1, hn2, hn3, hn, hroom, askRoom, h5]
  | _ => rw [hu] at h; exact h.elim
/-- A row of the call's own, told by a pointer. -/
theorem newArr_ok {P : Program} {N : NB} {φ : Phi} {M : Mem} {w : World} (hr : Rep N φ M w) {e : TypeId} {rs n : Nat} {l : List AV} {zs : Array Value} (hz : AVsRel φ l zs.toList)
    {Q : AV × Mem → Prop} {Qp : AV → Mem → Prop} (h : (newArr M e rs n l).holds Q Qp) :
    ∃ z w', (do pure (Value.pointer (some (← newRow e zs))) : Sem Value).run P w = .ok z w' ∧ Good N φ M w Q z w' := by
  obtain ⟨hc, hq⟩ := br_ok h
  obtain ⟨_, hl⟩ := Bool.and_eq_true_iff.1 hc
  have hl : l.length = n * rs := Nat.eq_of_beq_eq_true hl
  have hsz : zs.size = n * rs := by rw [← hl, hz.length, Array.length_toList]
  have key := hr.newOwn (.own e rs l) (.cells zs e) ⟨w.heap.size, 0, rs, n, none⟩ rfl (by
    refine ⟨_, updP_self .., ⟨rfl, rfl⟩, rfl, ⟨zs, _, alloc_new _ _, hsz, .inl rfl⟩, Nat.le_of_eq hl, fun j a ha => ?_⟩
    obtain ⟨y, hy, hrel⟩ := hz.get j a ha
    refine ⟨y, ?_, hrel.mono (updP_le _ (hr.fresh _ (Nat.le_refl _)).2)⟩
    show (w.alloc (.cells zs e)).cell? ⟨w.heap.size, j, none⟩ = some y
    simp only [World.cell?, alloc_new]
    simpa using hy)
  refine ⟨.pointer (some ⟨w.heap.size, 0, none⟩), w.alloc (.cells zs e), by simp [newRow, newObj, Sem.run], _, _, _, hq, ?_, key.1, key.2⟩
  have := AVRel.ptr (φ := updP φ M.next (some ⟨w.heap.size, 0, rs, n, none⟩)) M.next 0 0 _ (updP_self ..) rfl
  simpa [Pl.at] using this
theorem evAlloc_ok {P : Program} {tt : TT} {N : NB} {φ : Phi} {M : Mem} {w : World} (hr : Rep N φ M w) {e : TypeId} {zs : Array Value} (hz : AVsRel φ (tt e).zero zs.toList)
    {Q : AV × Mem → Prop} {Qp : AV → Mem → Prop} (h : (evAlloc tt M e).holds Q Qp) : (tt e).u ≠ .bad ∧ ∃ z w', (do pure (Value.pointer (some (← newRow e zs))) : Sem Value).run P w = .ok z w' ∧ Good N φ M w Q z w' := by
  unfold evAlloc at h
  cases hu : (tt e).u with
  | bad => rw [hu] at h; exact h.elim
  | arr n el =>
    rw [hu] at h
    have h : (bif2 (Nat.blt 0 (tt el).size && Nat.beq (tt e).size (n * (tt el).size)) (newArr M e (tt el).size n (tt e).zero) (newOwn M e (tt e).size (tt e).zero)).holds Q Qp := h
    rw [bif2_eq] at h
    refine ⟨by simp, ?_⟩
    split at h
    · exact newArr_ok hr hz h
    · exact newOwn_ok hr hz h
  | _ => rw [hu] at h; exact ⟨by simp, newOwn_ok hr hz h⟩
end Go.Eng

set_option autoImplicit false
namespace Go.Eng
open Go Go.RowKit

/-! ## Pieces -/
theorem optI_ok {φ : Phi} {st : Tmps} {a : Act} (hst : TmpsRel φ st a.tmps) {o : Option Operand} {d : Int} {k : Int → T (AV × Mem)} {Q : AV × Mem → Prop} {Qp : AV → Mem → Prop} (h : (optI st o d k).holds Q Qp) :
    ∃ i, (k i).holds Q Qp ∧ ((o = none ∧ i = d) ∨ ∃ x kk, o = some x ∧ a.eval x = .int kk i) := by
  cases o with
  | none => exact ⟨d, h, .inl ⟨rfl, rfl⟩⟩
  | some x =>
    obtain ⟨kk, i, hx, h⟩ := onI_ok (show (onI (evA st x) fun _ i => k i).holds Q Qp from h)
    have := evA_rel hst x
    rw [hx] at this
    exact ⟨i, h, .inr ⟨x, kk, rfl, idx_ok this⟩⟩

/-- The bounds of a piece, as the machine reckons them. -/
theorem sliceBounds_run {P : Program} {w : World} {a : Act} {isS : Bool} {len cap : Nat} {lo hi : Option Operand} {l h : Int} (hl : (lo = none ∧ l = 0) ∨ ∃ x kk, lo = some x ∧ a.eval x = .int kk l) (hh : (hi = none ∧ h = len) ∨ ∃ x kk, hi = some x ∧ a.eval x = .int kk h)
    (h0 : 0 ≤ h) (h1 : h ≤ (cap : Int)) (l0 : 0 ≤ l) (l1 : l ≤ h) : (Instr.sliceBounds isS len cap (lo.map a.eval) (hi.map a.eval) none).run P w = .ok (l.toNat, h.toNat, cap) w := by
  have key : ∀ (x : Operand) (kk : IntKind) (i : Int) (y : Nat) (code : BoundsCode), a.eval x = .int kk i → 0 ≤ i → i ≤ (y : Int) → (Instr.sliceBound (a.eval x) y code).run P w = .ok i.toNat w := by
    intro x kk i y code e h0 h1
    simp [Instr.sliceBound, e, asIntOf, h0, h1]
  have hhn : ((h.toNat : Nat) : Int) = h := Int.toNat_of_nonneg h0
  rcases hl with ⟨rfl, rfl⟩ | ⟨x, kk, rfl, e⟩ <;> rcases hh with ⟨rfl, rfl⟩ | ⟨x', kk', rfl, e'⟩
  · simp [Instr.sliceBounds]
  · simp [Instr.sliceBounds, key x' kk' h cap _ e' h0 h1]
  · simp [Instr.sliceBounds, key x kk l len _ e l0 l1]
  · simp [Instr.sliceBounds, key x' kk' h cap _ e' h0 h1, key x kk l h.toNat _ e l0 (by omega)]

theorem nilSl_ok {β : Type} {v : Value} {t : T β} {Q : β → Prop} {Qp : AV → Mem → Prop} (h : (nilSl v t).holds Q Qp) : v = .slice none 0 0 ∧ t.holds Q Qp := by
  unfold nilSl at h
  split at h
  · exact ⟨rfl, h⟩
  · exact h.elim

theorem arrSl_ok {P : Program} {tt : TT} (tok : TTok P tt) {N : NB} {φ : Phi} {M : Mem} {w : World} (hr : Rep N φ M w) {st : Tmps} {a : Act} (hst : TmpsRel φ st a.tmps) {t el : TypeId} {n : Nat} (ti : P.underlying t = some (.array n el)) {x : AV} {xv : Value} (hx : AVRel φ x xv) {lo hi mx : Option Operand}
    {Q : AV × Mem → Prop} {Qp : AV → Mem → Prop} (h : (arrSl tt M st n el x lo hi mx).holds Q Qp) :
    ∃ z, (Instr.sliceAt t xv (lo.map a.eval) (hi.map a.eval) (mx.map a.eval)).run P w = .ok z w ∧ Good N φ M w Q z w := by
  cases mx with
  | some m => exact h.elim
  | none =>
    have h2 := onPtr_ok (show (onPtr x fun id r c => optI st lo 0 fun l => optI st hi n fun h => onK (tt el).u (slArr (tt el) M id r c n l h) (slArr (tt el) M id r c n l h)).holds Q Qp from h)
    clear h
    obtain ⟨id, r, c, rfl, h3⟩ := h2
    obtain ⟨l, h4, hl⟩ := optI_ok hst h3
    clear h3
    obtain ⟨hh, h5, hhi⟩ := optI_ok hst h4
    clear h4
    obtain ⟨hb, h⟩ := onK_both h5
    clear h5
    have te := tok el hb
    unfold slArr at h
    obtain ⟨hc0, h6⟩ := br_ok h
    clear h
    have h := h6
    clear h6
    obtain ⟨hc0, hes⟩ := Bool.and_eq_true_iff.1 hc0
    have hc0 : c = 0 := Nat.eq_of_beq_eq_true hc0
    subst hc0
    have hes : 0 < (tt el).size := Nat.le_of_ble_eq_true hes
    obtain ⟨h, hrs⟩ := rsIs_ok hr h
    have ho := hr.objs id
    unfold rowsIn at h
    cases hg : M.get id with
    | own e rs cells =>
      rw [hg] at h ho
      obtain ⟨c0, h⟩ := br_ok (show (T.br (Nat.ble ((r + n) * (tt el).size) cells.length) (.br (decide (0 ≤ hh)) (.br (decide (hh ≤ (n : Int))) (.br (decide (0 ≤ l)) (.br (decide (l ≤ hh))
        (.br (decide (l < (n : Int))) (.ret (.sl id (r + l.toNat) (hh - l).toNat (some (n - l.toNat)), M)) (.ret (.e, M))) .fail) .fail) .fail) .fail) .fail).holds Q Qp from h)
      have c0 : (r + n) * (tt el).size ≤ cells.length := Nat.le_of_ble_eq_true c0
      obtain ⟨c1, h⟩ := br_ok h
      obtain ⟨c2, h⟩ := br_ok h
      obtain ⟨c3, h⟩ := br_ok h
      obtain ⟨c4, h⟩ := br_ok h
      simp only [decide_eq_true_eq] at c1 c2 c3 c4
      obtain ⟨p, hp, ⟨hpo, hps⟩, hprs, hblk, hlen, _⟩ := ho
      have hrs' := hrs p hp
      cases hx with
      | ptr _ _ _ q hq hqs =>
        rw [hp] at hq
        cases hq
        have hrn : r + n ≤ p.k := by
          rw [← hprs, hrs'] at hlen
          exact Nat.le_of_mul_le_mul_right (Nat.le_trans c0 hlen) hes
        have hrun : (Instr.sliceAt t (.pointer (some (p.at r 0))) (lo.map a.eval) (hi.map a.eval) none).run P w = .ok (.slice (some (if n = l.toNat then p.at r 0 else (p.at r 0).add (l.toNat * (tt el).size))) (hh.toNat - l.toNat) (n - l.toNat)) w := by
          simp [Instr.sliceAt, Instr.sureAddr, run_underlying ti, sliceBounds_run (len := n) (cap := n) hl hhi c1 (by omega) c3 c4, run_sizeOf' te]
        refine ⟨_, hrun, ?_⟩
        obtain ⟨h1, h2⟩ := h
        by_cases hlt : l < (n : Int)
        · rw [if_neg (by omega)]
          refine .here hr (h1 (by simpa using hlt)) ?_
          have := AVRel.sl (φ := φ) id (r + l.toNat) (hh - l).toNat (some (n - l.toNat)) (some p) (n - l.toNat) hp (fun e => by cases e) (fun c e => by rw [← Option.some.inj e]; exact .self _) (by omega) (fun q e => by cases e; omega) (fun q e _ => by cases e; exact hps)
          have e1 : (p.at r 0).add (l.toNat * (tt el).size) = p.at (r + l.toNat) 0 := by
            rw [at_add p hps, ← hrs']
            simp [Pl.at, Nat.add_mul]
          simp only [Option.map_some] at this
          rw [e1, show hh.toNat - l.toNat = (hh - l).toNat by omega]
          exact this
        · have e2 : hh.toNat - l.toNat = 0 := by omega
          rw [e2]
          exact .here hr (h2 (by simpa using hlt)) (.e _ _)
    | _ => rw [hg] at h; exact h.elim
theorem ownIs_ok {β : Type} {N : NB} {φ : Phi} {M : Mem} {w : World} (hr : Rep N φ M w) {id : Nat} {t : T β} {Q : β → Prop} {Qp : AV → Mem → Prop} (h : (ownIs M id t).holds Q Qp) : t.holds Q Qp ∧ ∃ p, φ id = some (some p) ∧ p.spot = none := by
  have ho := hr.objs id
  unfold ownIs at h
  cases hg : M.get id with
  | own e rs cells => rw [hg] at h ho; obtain ⟨p, hp, ⟨_, hs⟩, _⟩ := ho; exact ⟨h, p, hp, hs⟩
  | vec e n cols => rw [hg] at h ho; obtain ⟨_, p, hp, ⟨_, hs⟩, _⟩ := ho; exact ⟨h, p, hp, hs⟩
  | _ => rw [hg] at h; exact h.elim
theorem capLow_ok {cap : Option Nat} {n cc : Nat} (hc : ∀ c, cap = some c → CapOk c cc) (hle : n ≤ cc) : ∀ c, capLow cap n = some c → CapOk c cc := by
  intro c e
  cases cap with
  | none =>
    have e : n + 18446744073709551616 = c := Option.some.inj e
    subst e
    exact ⟨fun h => absurd h (by unfold bigC; omega), fun _ => by unfold bigC; omega⟩
  | some c0 => exact hc c e
theorem capSub_ok {cap : Option Nat} {cc : Nat} (hc : ∀ c, cap = some c → CapOk c cc) (l : Nat) : ∀ c, capSub cap l = some c → CapOk c (cc - l) := by
  intro c e
  cases cap with
  | none => cases e
  | some c0 =>
    have e : bif2 (Nat.blt c0 18446744073709551616) (c0 - l) (bif2 (Nat.ble 18446744073709551616 (c0 - l)) (c0 - l) 18446744073709551616) = c := Option.some.inj e
    obtain ⟨h1, h2⟩ := hc c0 rfl
    unfold bigC at h1 h2
    rw [bif2_eq] at e
    split at e
    · rename_i hb
      have hb : c0 < 18446744073709551616 := by simpa [Nat.blt_eq] using hb
      have := h1 hb
      subst this e
      exact ⟨fun _ => rfl, fun h => absurd h (by unfold bigC; omega)⟩
    · rename_i hb
      have hb : ¬ c0 < 18446744073709551616 := by simpa [Nat.blt_eq] using hb
      have := h2 (by omega)
      rw [bif2_eq] at e
      split at e
      · rename_i hb2
        have hb2 : 18446744073709551616 ≤ c0 - l := by simpa [Nat.ble_eq] using hb2
        subst e
        refine ⟨fun h => ?_, fun _ => ?_⟩
        · simp only [bigC] at h; omega
        · have e2 : c0 - l - bigC = c0 - l - 18446744073709551616 := rfl
          rw [e2, Nat.sub_right_comm]; exact Nat.sub_le_sub_right this l
      · subst e
        rw [show (18446744073709551616 : Nat) = bigC from rfl]; exact CapOk.big _
theorem lowOf_le {cap : Option Nat} {n cc : Nat} (hc : ∀ c, cap = some c → CapOk c cc) (hle : n ≤ cc) : lowOf cap n ≤ cc ∧ n ≤ lowOf cap n := by
  cases cap with
  | none => exact ⟨hle, Nat.le_refl _⟩
  | some c =>
    show bif2 (Nat.ble (n + 18446744073709551616) c) (Nat.sub c 18446744073709551616) n ≤ cc ∧ n ≤ bif2 (Nat.ble (n + 18446744073709551616) c) (Nat.sub c 18446744073709551616) n
    rw [bif2_eq]
    split
    · rename_i hb
      have hb : n + 18446744073709551616 ≤ c := by simpa [Nat.ble_eq] using hb
      obtain ⟨_, h2⟩ := hc c rfl
      have := h2 (by unfold bigC; omega)
      unfold bigC at this
      exact ⟨this, by show n ≤ c - 18446744073709551616; omega⟩
    · exact ⟨hle, Nat.le_refl _⟩

theorem evSlice_ok {P : Program} {tt : TT} (tok : TTok P tt) {N : NB} {φ : Phi} {M : Mem} {w : World} (hr : Rep N φ M w) {st : Tmps} {a : Act} (hst : TmpsRel φ st a.tmps) {t : TypeId} {x : Operand} {lo hi mx : Option Operand}
    {Q : AV × Mem → Prop} {Qp : AV → Mem → Prop} (h : (evSlice tt (tt t).u M st (evA st x) lo hi mx).holds Q Qp) :
    ∃ z, (Instr.sliceAt t (a.eval x) (lo.map a.eval) (hi.map a.eval) (mx.map a.eval)).run P w = .ok z w ∧ Good N φ M w Q z w := by
  have hx := evA_rel hst x
  cases hu : (tt t).u with
  | str =>
    rw [hu] at h
    have ti := (tok t (by rw [hu]; simp)).und
    rw [hu] at ti
    have ti : P.underlying t = some .string := ti
    cases mx with
    | some m => exact h.elim
    | none =>
      obtain ⟨s, hs, h⟩ := onS_ok (show (onS (evA st x) fun s => optI st lo 0 fun l => optI st hi s.size fun h => slStr M s l h).holds Q Qp from h)
      rw [hs] at hx
      generalize hgv : a.eval x = xv at hx
      cases hx
      obtain ⟨l, h, hl⟩ := optI_ok hst h
      obtain ⟨hh, h, hhi⟩ := optI_ok hst h
      obtain ⟨c1, h⟩ := br_ok (show (T.br (decide (0 ≤ hh)) (.br (decide (hh ≤ (s.size : Int))) (.br (decide (0 ≤ l)) (.br (decide (l ≤ hh)) (.ret (.s (s.extract l.toNat hh.toNat), M)) .fail) .fail) .fail) .fail).holds Q Qp from h)
      obtain ⟨c2, h⟩ := br_ok h
      obtain ⟨c3, h⟩ := br_ok h
      obtain ⟨c4, h⟩ := br_ok h
      simp only [decide_eq_true_eq] at c1 c2 c3 c4
      refine ⟨.string (s.extract l.toNat hh.toNat), ?_, .here hr h (.s _)⟩
      simp [Instr.sliceAt, Instr.slice, run_underlying ti, sliceBounds_run hl hhi c1 c2 c3 c4]
  | arr n el =>
    rw [hu] at h
    have ti := (tok t (by rw [hu]; simp)).und
    rw [hu] at ti
    exact arrSl_ok tok hr hst ti hx h
  | sl el =>
    rw [hu] at h
    have ti := (tok t (by rw [hu]; simp)).und
    rw [hu] at ti
    have ti : P.underlying t = some (.slice el) := ti
    have h : (slOf tt M st el (evA st x) lo hi mx).holds Q Qp := h
    generalize hgv : a.eval x = xv at hx
    generalize evA st x = xa at hx h
    cases hx with
    | v =>
      obtain ⟨rfl, h⟩ := nilSl_ok (show (nilSl xv (onK (tt el).u (slNilA M st lo hi mx) (slNilA M st lo hi mx))).holds Q Qp from h)
      obtain ⟨hb, h⟩ := onK_both h
      have te := tok el hb
      cases mx with
      | some m => exact h.elim
      | none =>
        obtain ⟨l, h, hl⟩ := optI_ok hst (show (optI st lo 0 fun l => optI st hi 0 fun h => slNil M l h 0).holds Q Qp from h)
        obtain ⟨hh, h, hhi⟩ := optI_ok hst h
        obtain ⟨c1, h5⟩ := br_ok h
        clear h
        simp only [Bool.and_eq_true, beq_iff_eq] at c1
        obtain ⟨rfl, rfl, _⟩ := c1
        refine ⟨.slice none 0 0, ?_, .here hr h5 (.v _)⟩
        simp [Instr.sliceAt, Instr.slice, run_underlying ti, sliceBounds_run (len := 0) (cap := 0) hl hhi (Int.le_refl _) (Int.le_refl _) (Int.le_refl _) (Int.le_refl _), run_sizeOf' te]
    | sl id r n cap pl cc hp hz hc hle hk hs =>
      cases mx with
      | none =>
        obtain ⟨l, h, hl⟩ := optI_ok hst (show (optI st lo 0 fun l => optI st hi n fun h => onK (tt el).u (slSl M (tt el).size id r n cap l h) (slSl M (tt el).size id r n cap l h)).holds Q Qp from h)
        obtain ⟨hh, h, hhi⟩ := optI_ok hst h
        obtain ⟨hb, h⟩ := onK_both h
        have te := tok el hb
        obtain ⟨h, hrs⟩ := rsIs_ok hr h
        obtain ⟨c1, h⟩ := br_ok h
        simp only [decide_eq_true_eq] at c1
        obtain ⟨ha, hb'⟩ := h
        obtain ⟨hl1, hl2⟩ := lowOf_le hc hle
        by_cases c2 : hh ≤ (n : Int)
        case neg =>
          have h : (T.br (decide (hh ≤ (lowOf cap n : Int))) (.br (decide (0 ≤ l)) (.br (decide (l < hh)) (ownIs M id (.ret (.sl id (r + l.toNat) (hh - l).toNat (capSub cap l.toNat), M))) .fail) .fail) .fail).holds Q Qp := hb' (by simpa using c2)
          clear ha hb'
          obtain ⟨c3, h⟩ := br_ok h
          obtain ⟨c4, h⟩ := br_ok h
          obtain ⟨c5, h⟩ := br_ok h
          simp only [decide_eq_true_eq] at c3 c4 c5
          have hrun : (Instr.sliceAt t (.slice (pl.map fun p => p.at r 0) n cc) (lo.map a.eval) (hi.map a.eval) none).run P w = .ok (.slice (if cc = l.toNat then pl.map fun p => p.at r 0 else (pl.map fun p => p.at r 0).map (·.add (l.toNat * (tt el).size))) (hh.toNat - l.toNat) (cc - l.toNat)) w := by
            simp [Instr.sliceAt, Instr.slice, run_underlying ti, sliceBounds_run (len := n) (cap := cc) hl hhi c1 (by omega) (by omega) (by omega), run_sizeOf' te]
          refine ⟨_, hrun, ?_⟩
          obtain ⟨h, p, hpp, hps⟩ := ownIs_ok hr h
          rw [hp] at hpp
          cases hpp
          rw [if_neg (by omega)]
          refine .here hr h ?_
          have hk' := hk p rfl
          have := AVRel.sl (φ := φ) id (r + l.toNat) (hh - l).toNat (capSub cap l.toNat) (some p) (cc - l.toNat) hp (fun e => by cases e) (capSub_ok hc _) (by omega) (fun q e => by cases e; omega) (fun q e _ => by cases e; exact hps)
          have e1 : (p.at r 0).add (l.toNat * (tt el).size) = p.at (r + l.toNat) 0 := by
            rw [at_add p hps, ← hrs p hp]
            simp [Pl.at, Nat.add_mul]
          simp only [Option.map_some, e1] at this ⊢
          rw [show hh.toNat - l.toNat = (hh - l).toNat by omega]
          exact this
        have h : (T.br (decide (0 ≤ l)) (.br (decide (l ≤ hh))
    (.br (l == 0) (.ret (.sl id r hh.toNat (capLow cap n), M)) (.br (decide (l < hh)) (.ret (.sl id (r + l.toNat) (hh - l).toNat (capSub cap l.toNat), M)) (.ret (.e, M)))) .fail) .fail).holds Q Qp := ha (by simpa using c2)
        clear ha hb'
        obtain ⟨c3, h⟩ := br_ok h
        obtain ⟨c4, h⟩ := br_ok h
        simp only [decide_eq_true_eq] at c3 c4
        have hrun : (Instr.sliceAt t (.slice (pl.map fun p => p.at r 0) n cc) (lo.map a.eval) (hi.map a.eval) none).run P w = .ok (.slice (if cc = l.toNat then pl.map fun p => p.at r 0 else (pl.map fun p => p.at r 0).map (·.add (l.toNat * (tt el).size))) (hh.toNat - l.toNat) (cc - l.toNat)) w := by
          simp [Instr.sliceAt, Instr.slice, run_underlying ti, sliceBounds_run (len := n) (cap := cc) hl hhi c1 (by omega) c3 c4, run_sizeOf' te]
        refine ⟨_, hrun, ?_⟩
        obtain ⟨h1, h2⟩ := h
        by_cases hl0 : l = 0
        · subst hl0
          have hA : (if cc = (0 : Int).toNat then pl.map fun p => p.at r 0 else (pl.map fun p => p.at r 0).map (·.add ((0 : Int).toNat * (tt el).size))) = pl.map fun p => p.at r 0 := by
            split
            · rfl
            · cases pl with
              | none => rfl
              | some p => simp [Addr.add]
          rw [hA]
          refine .here hr (h1 rfl) ?_
          have := AVRel.sl (φ := φ) id r hh.toNat (capLow cap n) pl cc hp (fun e => by have := hz e; omega) (capLow_ok hc hle) (by omega) hk (fun p e hn => hs p e (by omega))
          simpa using this
        · obtain ⟨h3, h4⟩ := h2 (by simpa using hl0)
          have hpos : 0 < n := by omega
          cases pl with
          | none => have := hz rfl; omega
          | some p =>
            by_cases hlt : l < hh
            · rw [if_neg (by omega)]
              refine .here hr (h3 (by simpa using hlt)) ?_
              have hk' := hk p rfl
              have := AVRel.sl (φ := φ) id (r + l.toNat) (hh - l).toNat (capSub cap l.toNat) (some p) (cc - l.toNat) hp (fun e => by cases e) (capSub_ok hc _) (by omega) (fun q e => by cases e; omega) (fun q e _ => by cases e; exact hs p rfl hpos)
              have e1 : (p.at r 0).add (l.toNat * (tt el).size) = p.at (r + l.toNat) 0 := by
                rw [at_add p (hs p rfl hpos), ← hrs p hp]
                simp [Pl.at, Nat.add_mul]
              simp only [Option.map_some, e1] at this ⊢
              rw [show hh.toNat - l.toNat = (hh - l).toNat by omega]
              exact this
            · have e2 : hh.toNat - l.toNat = 0 := by omega
              rw [e2]
              refine .here hr (h4 (by simpa using hlt)) ?_
              split
              · exact .e _ _
              · exact .e _ _
      | some m =>
        obtain ⟨km, mm, hm, h⟩ := onI_ok (show (onI (evA st m) fun _ m => optI st lo 0 fun l => .br (l == 0) (@Option.rec Operand (fun _ => T (AV × Mem)) .fail (fun h => onI (evA st h) fun _ h => onK (tt el).u (slMax M id r n h m) (slMax M id r n h m)) hi) .fail).holds Q Qp from h)
        obtain ⟨l, h, hl⟩ := optI_ok hst h
        obtain ⟨hl0, h5⟩ := br_ok h
        clear h
        have h := h5
        clear h5
        have hl0 : l = 0 := by simpa using hl0
        subst hl0
        cases hi with
        | none => exact h.elim
        | some hx' =>
          obtain ⟨kh, hh, hhv, h⟩ := onI_ok (show (onI (evA st hx') fun _ h => onK (tt el).u (slMax M id r n h mm) (slMax M id r n h mm)).holds Q Qp from h)
          obtain ⟨hb, h⟩ := onK_both h
          have te := tok el hb
          obtain ⟨c1, h⟩ := br_ok h
          obtain ⟨c2, h⟩ := br_ok h
          obtain ⟨c3, h⟩ := br_ok h
          obtain ⟨c4, h⟩ := br_ok h
          simp only [decide_eq_true_eq] at c1 c2 c3 c4
          have em := evA_rel hst m
          rw [hm] at em
          have em := idx_ok em
          have eh := evA_rel hst hx'
          rw [hhv] at eh
          have eh := idx_ok eh
          have key : ∀ (x : Operand) (kk : IntKind) (i : Int) (y : Nat) (code : BoundsCode), a.eval x = .int kk i → 0 ≤ i → i ≤ (y : Int) → (Instr.sliceBound (a.eval x) y code).run P w = .ok i.toNat w := by
            intro x kk i y code e h0 h1
            simp [Instr.sliceBound, e, asIntOf, h0, h1]
          have hbnd : (Instr.sliceBounds true n cc (lo.map a.eval) (some (a.eval hx')) (some (a.eval m))).run P w = .ok (0, hh.toNat, mm.toNat) w := by
            have k1 := fun code => key m km mm cc code em c1 (by omega)
            have k2 := fun code => key hx' kh hh mm.toNat code eh c3 (by omega)
            rcases hl with ⟨rfl, _⟩ | ⟨xl, kl, rfl, el'⟩
            · simp [Instr.sliceBounds, k1, k2]
            · have k3 := fun code => key xl kl 0 hh.toNat code el' (Int.le_refl _) (by omega)
              simp [Instr.sliceBounds, k1, k2, k3]
          have hrun : (Instr.sliceAt t (.slice (pl.map fun p => p.at r 0) n cc) (lo.map a.eval) (some (a.eval hx')) (some (a.eval m))).run P w = .ok (.slice (if mm.toNat = 0 then pl.map fun p => p.at r 0 else (pl.map fun p => p.at r 0).map (·.add (0 * (tt el).size))) (hh.toNat - 0) (mm.toNat - 0)) w := by
            simp [Instr.sliceAt, Instr.slice, run_underlying ti, hbnd, run_sizeOf' te]
          refine ⟨_, hrun, ?_⟩
          have hA : (if mm.toNat = 0 then pl.map fun p => p.at r 0 else (pl.map fun p => p.at r 0).map (·.add (0 * (tt el).size))) = pl.map fun p => p.at r 0 := by
            split
            · rfl
            · cases pl with
              | none => rfl
              | some p => simp [Addr.add]
          rw [hA]
          refine .here hr h ?_
          exact AVRel.sl (φ := φ) id r hh.toNat (some mm.toNat) pl mm.toNat hp (fun e => by have := hz e; omega) (fun c e => by rw [← Option.some.inj e]; exact .self _) (by omega) (fun q e => by have := hk q e; omega) (fun q e _ => hs q e (by omega))
    | _ => exact h.elim
  | _ => rw [hu] at h; exact h.elim
end Go.Eng
