/- An evaluator of the code of the model, and lemmas of its proof of soundness: what it tells of a call, the call does; no condition but those that each lemma names. -/
import Derived.Calls
import Derived.Orders
import Derived.Laws.FloatArith
set_option linter.all false
set_option linter.deprecated false
set_option autoImplicit false
namespace Go.Eng
open Go

/-! ## Values and memory -/
inductive AV where
  | i (k : IntKind) (n : Int)
  | b (x : Bool)
  | s (x : ByteArray)
  | v (x : Value)
  | ptr (id r c : Nat)
  | sl (id r n : Nat) (cap : Option Nat)
  | e
  | mp (id : Nat)
  | fn (f : Fn) (caps : List AV)
  | ifc (t : TypeId) (x : AV)
  | agg (l : List AV)
  | tup (l : List AV)
  | top

/-- A column of a row of structs (or of plain values). -/
inductive Col where
  | ci (k : IntKind) (l : List Int)
  | cs (l : List ByteArray)
  | cb (l : List Bool)
  | cf (k : FloatKind) (l : List Nat)
  | cl (h : List (Bool × Nat × Nat)) (sub : Nat → List Col)

def Col.len : Col → Nat
  | .ci _ l => l.length
  | .cs l => l.length
  | .cb l => l.length
  | .cf _ l => l.length
  | .cl h _ => h.length

inductive AObj where
  | dead
  | ro (nil : Bool) (n : Nat) (cols : List Col)
  | own (elem : TypeId) (rs : Nat) (cells : List AV)
  | vec (elem : TypeId) (n : Nat) (cols : List Col)

structure Mem where
  next : Nat
  lock : Nat
  get : Nat → AObj

noncomputable def upd {α : Type} (f : Nat → α) (i : Nat) (x : α) : Nat → α := fun j => @Bool.rec (fun _ => α) (f j) x (Nat.beq j i)
noncomputable def Mem.set (M : Mem) (id : Nat) (o : AObj) : Mem := ⟨M.next, M.lock, upd M.get id o⟩
noncomputable def Mem.new (M : Mem) (o : AObj) : Mem := ⟨M.next + 1, M.lock, upd M.get M.next o⟩

/-! ## The tree of ways -/
inductive T (α : Type) where
  | ret (a : α)
  | br (b : Bool) (t e : T α)
  | pan (x : AV) (M : Mem)
  | ck (b : Bool) (t : T α)
  | fail
namespace T
noncomputable def bind {α β : Type} (x : T α) (f : α → T β) : T β :=
  @T.rec α (fun _ => T β) f (fun b _ _ t e => .br b t e) (fun x M => .pan x M) (fun b _ t => .ck b t) .fail x
def holds {α : Type} (x : T α) (Q : α → Prop) (Qp : AV → Mem → Prop) : Prop :=
  @T.rec α (fun _ => Prop) Q (fun b _ _ t e => (b = true → t) ∧ (b = false → e)) Qp (fun b _ t => b = true ∧ t) False x
noncomputable def run {α : Type} (x : T α) : Option (α ⊕ (AV × Mem)) :=
  @T.rec α (fun _ => Option (α ⊕ (AV × Mem))) (fun a => some (.inl a)) (fun b _ _ t e => @Bool.rec (fun _ => Option (α ⊕ (AV × Mem))) e t b) (fun x M => some (.inr (x, M))) (fun b _ t => @Bool.rec (fun _ => Option (α ⊕ (AV × Mem))) none t b) none x
end T
noncomputable def onO {α β : Type} (x : Option α) (f : α → T β) : T β := @Option.rec α (fun _ => T β) .fail f x
/-- A choice by a Bool, small for the kernel. -/
noncomputable def bif2 {α : Type} (b : Bool) (t e : α) : α := @Bool.rec (fun _ => α) e t b
noncomputable def onI {β : Type} (x : AV) (f_i : IntKind → Int → T β) : T β := @AV.casesOn (fun _ => T β) x f_i (fun _ => .fail) (fun _ => .fail) (fun _ => .fail) (fun _ _ _ => .fail) (fun _ _ _ _ => .fail) .fail (fun _ => .fail) (fun _ _ => .fail) (fun _ _ => .fail) (fun _ => .fail) (fun _ => .fail) .fail
noncomputable def onB {β : Type} (x : AV) (f_b : Bool → T β) : T β := @AV.casesOn (fun _ => T β) x (fun _ _ => .fail) f_b (fun _ => .fail) (fun _ => .fail) (fun _ _ _ => .fail) (fun _ _ _ _ => .fail) .fail (fun _ => .fail) (fun _ _ => .fail) (fun _ _ => .fail) (fun _ => .fail) (fun _ => .fail) .fail
noncomputable def onS {β : Type} (x : AV) (f_s : ByteArray → T β) : T β := @AV.casesOn (fun _ => T β) x (fun _ _ => .fail) (fun _ => .fail) f_s (fun _ => .fail) (fun _ _ _ => .fail) (fun _ _ _ _ => .fail) .fail (fun _ => .fail) (fun _ _ => .fail) (fun _ _ => .fail) (fun _ => .fail) (fun _ => .fail) .fail
noncomputable def onV {β : Type} (x : AV) (f_v : Value → T β) : T β := @AV.casesOn (fun _ => T β) x (fun _ _ => .fail) (fun _ => .fail) (fun _ => .fail) f_v (fun _ _ _ => .fail) (fun _ _ _ _ => .fail) .fail (fun _ => .fail) (fun _ _ => .fail) (fun _ _ => .fail) (fun _ => .fail) (fun _ => .fail) .fail
noncomputable def onPtr {β : Type} (x : AV) (f_ptr : Nat → Nat → Nat → T β) : T β := @AV.casesOn (fun _ => T β) x (fun _ _ => .fail) (fun _ => .fail) (fun _ => .fail) (fun _ => .fail) f_ptr (fun _ _ _ _ => .fail) .fail (fun _ => .fail) (fun _ _ => .fail) (fun _ _ => .fail) (fun _ => .fail) (fun _ => .fail) .fail
noncomputable def onSl {β : Type} (x : AV) (f_sl : Nat → Nat → Nat → Option Nat → T β) : T β := @AV.casesOn (fun _ => T β) x (fun _ _ => .fail) (fun _ => .fail) (fun _ => .fail) (fun _ => .fail) (fun _ _ _ => .fail) f_sl .fail (fun _ => .fail) (fun _ _ => .fail) (fun _ _ => .fail) (fun _ => .fail) (fun _ => .fail) .fail
noncomputable def onFn {β : Type} (x : AV) (f_fn : Fn → List AV → T β) : T β := @AV.casesOn (fun _ => T β) x (fun _ _ => .fail) (fun _ => .fail) (fun _ => .fail) (fun _ => .fail) (fun _ _ _ => .fail) (fun _ _ _ _ => .fail) .fail (fun _ => .fail) f_fn (fun _ _ => .fail) (fun _ => .fail) (fun _ => .fail) .fail
noncomputable def onAgg {β : Type} (x : AV) (f_agg : List AV → T β) : T β := @AV.casesOn (fun _ => T β) x (fun _ _ => .fail) (fun _ => .fail) (fun _ => .fail) (fun _ => .fail) (fun _ _ _ => .fail) (fun _ _ _ _ => .fail) .fail (fun _ => .fail) (fun _ _ => .fail) (fun _ _ => .fail) f_agg (fun _ => .fail) .fail
noncomputable def onTup {β : Type} (x : AV) (f_tup : List AV → T β) : T β := @AV.casesOn (fun _ => T β) x (fun _ _ => .fail) (fun _ => .fail) (fun _ => .fail) (fun _ => .fail) (fun _ _ _ => .fail) (fun _ _ _ _ => .fail) .fail (fun _ => .fail) (fun _ _ => .fail) (fun _ _ => .fail) (fun _ => .fail) f_tup .fail
def lenV : Value → T AV
  | .slice _ n _ => .ret (.i .i64 n)
  | _ => .fail

abbrev Tmps := Nat → AV
def AV.cells : AV → List AV
  | .agg l => l
  | x => [x]
def lift1 : Value → AV
  | .int k n => .i k n
  | .bool x => .b x
  | .string x => .s x
  | x => .v x
def lift : Value → AV
  | .agg cs => .agg (cs.toList.map lift1)
  | .int k n => .i k n
  | .bool x => .b x
  | .string x => .s x
  | x => .v x
def evA (st : Tmps) : Operand → AV
  | .tmp t => st t
  | .const v => lift v
  | .global g => .v (.pointer (some ⟨g, 0, none⟩))
  | .func f => .fn (.func f) []

/-! ## Types -/
/-- The kind of a cell of a row. -/
inductive CK where
  | int (k : IntKind) | str | bool | flt | ptr | mp | fnc | other
inductive Und where
  | sl (elem : TypeId) | arr (n : Nat) (elem : TypeId) | st (fs : List (Nat × TypeId × Nat)) | str | leaf | ifc | bad
structure TI where
  u : Und
  size : Nat
  bytes : Nat
  zero : List AV
  kind : CK
  cmp : Bool
  kinds : List CK
abbrev TT := Nat → TI
/-- An aggregate, a leaf; a type that isn't listed. -/
noncomputable def onK {β : Type} (u : Und) (a l : T β) : T β := @Und.casesOn (fun _ => T β) u (fun _ => l) (fun _ _ => a) (fun _ => a) l l l .fail
/-- A type of values that isn't an interface. -/
noncomputable def onC {β : Type} (u : Und) (l : T β) : T β := @Und.casesOn (fun _ => T β) u (fun _ => l) (fun _ _ => l) (fun _ => l) l l .fail .fail

/-! ## Operations -/
def pureOf {α : Type} (P : Program) : Sem α → Option α
  | .pure a => some a
  | .program k => pureOf P (k P)
  | .mark _ k => pureOf P k
  | _ => none
noncomputable def sel {α : Type} (l : List α) : Nat → T α :=
  @List.rec α (fun _ => Nat → T α) (fun _ => .fail) (fun x _ ih i => @Nat.rec (fun _ => T α) (.ret x) (fun i _ => ih i) i) l
noncomputable def nth? {α : Type} (l : List α) : Nat → Option α :=
  @List.rec α (fun _ => Nat → Option α) (fun _ => none) (fun x _ ih i => @Nat.rec (fun _ => Option α) (some x) (fun i _ => ih i) i) l

noncomputable def colGet (M : Mem) (r : Nat) (col : Col) : T (AV × Mem) :=
  @Col.casesOn (fun _ => T (AV × Mem)) col
    (fun k l => .ret (.i k (l.getD r 0), M))
    (fun l => .ret (.s (l.getD r ByteArray.empty), M))
    (fun l => .ret (.b (l.getD r false), M))
    (fun k l => .ret (.v (.float k (l.getD r 0)), M))
    (fun h sub => .ret (.sl M.next 0 (h.getD r (true, 0, 0)).2.1 (some (h.getD r (true, 0, 0)).2.2), M.new (.ro (h.getD r (true, 0, 0)).1 (h.getD r (true, 0, 0)).2.1 (sub r))))
noncomputable def colsGet (M : Mem) (cols : List Col) (n r c : Nat) : T (AV × Mem) := .br (Nat.blt r n) (onO (nth? cols c) (colGet M r)) .fail
noncomputable def ownGet (M : Mem) (rs r c : Nat) (cells : List AV) : T (AV × Mem) := (sel cells (r * rs + c)).bind fun x => .ret (x, M)
noncomputable def loadCell (M : Mem) (id r c : Nat) : T (AV × Mem) :=
  @AObj.casesOn (fun _ => T (AV × Mem)) (M.get id) .fail (fun _ n cols => colsGet M cols n r c) (fun _ rs cells => ownGet M rs r c cells) (fun _ n cols => colsGet M cols n r c)
noncomputable def loadCells (id r : Nat) (n : Nat) : Mem → Nat → T (List AV × Mem) :=
  @Nat.rec (fun _ => Mem → Nat → T (List AV × Mem)) (fun M _ => .ret ([], M))
    (fun _ ih M c => (loadCell M id r c).bind fun x => (ih x.2 (c + 1)).bind fun y => .ret (x.1 :: y.1, y.2)) n
noncomputable def evLoad1 (ti : TI) (M : Mem) (id r c : Nat) : T (AV × Mem) :=
  onK ti.u ((loadCells id r ti.size M c).bind fun x => .ret (.agg x.1, x.2)) (loadCell M id r c)
noncomputable def evLoad (ti : TI) (M : Mem) (a : AV) : T (AV × Mem) := onPtr a (evLoad1 ti M)

def leafV : Value → Bool
  | .agg _ => false
  | .tuple _ => false
  | _ => true
noncomputable def leafA (x : AV) : Bool :=
  @AV.casesOn (fun _ => Bool) x (fun _ _ => true) (fun _ => true) (fun _ => true) leafV (fun _ _ _ => true) (fun _ _ _ _ => true) true (fun _ => true) (fun _ _ => true) (fun _ _ => true) (fun _ => false) (fun _ => false) false
noncomputable def allLeaf (l : List AV) : Bool := @List.rec AV (fun _ => Bool) true (fun x _ ih => @Bool.rec (fun _ => Bool) false ih (leafA x)) l
noncomputable def storeCell (M : Mem) (id r c : Nat) (x : AV) : T Mem :=
  @AObj.casesOn (fun _ => T Mem) (M.get id) .fail (fun _ _ _ => .fail)
    (fun elem rs cells => .ck (Nat.ble M.lock id) (.ck (leafA x && Nat.blt (r * rs + c) cells.length) (.ret (M.set id (.own elem rs (cells.set (r * rs + c) x))))))
    (fun _ _ _ => .fail)
noncomputable def storeCells (id r : Nat) (l : List AV) : Mem → Nat → T Mem :=
  @List.rec AV (fun _ => Mem → Nat → T Mem) (fun M _ => .ret M) (fun x _ ih M c => (storeCell M id r c x).bind fun M => ih M (c + 1)) l
noncomputable def storeAll (n : Nat) (M : Mem) (id r c : Nat) (l : List AV) : T (AV × Mem) := .br (Nat.beq l.length n) ((storeCells id r l M c).bind fun M => .ret (.v undef, M)) .fail
noncomputable def evStore (ti : TI) (M : Mem) (a x : AV) : T (AV × Mem) :=
  onPtr a fun id r c => onK ti.u (storeAll ti.size M id r c x.cells) (storeAll ti.size M id r c x.cells)

noncomputable def newOwn (M : Mem) (elem : TypeId) (rs : Nat) (cells : List AV) : T (AV × Mem) :=
  .br (allLeaf cells && Nat.beq cells.length rs) (.ret (.ptr M.next 0 0, M.new (.own elem rs cells))) .fail

/-- The cells of a row of an object. -/
noncomputable def onRs {β : Type} (o : AObj) (f : Nat → T β) : T β := @AObj.casesOn (fun _ => T β) o .fail (fun _ _ cols => f cols.length) (fun _ rs _ => f rs) (fun _ _ cols => f cols.length)
noncomputable def rsIs (M : Mem) (id n : Nat) (t : T (AV × Mem)) : T (AV × Mem) := onRs (M.get id) fun k => .br (Nat.beq k n) t .fail
noncomputable def idxSl (M : Mem) (i : Int) (id r n : Nat) : T (AV × Mem) :=
  .br (decide (0 ≤ i)) (.br (decide (i < (n : Int))) (.ret (.ptr id (r + i.toNat) 0, M)) .fail) .fail
noncomputable def idxArr (M : Mem) (i : Int) (len es : Nat) (id r c : Nat) : T (AV × Mem) :=
  .br (decide (0 ≤ i)) (.br (decide (i < (len : Int))) (.ret (.ptr id r (c + i.toNat * es), M)) .fail) .fail
noncomputable def evIndexAddr (tt : TT) (u : Und) (M : Mem) (x ix : AV) : T (AV × Mem) :=
  onI ix fun _ i => @Und.casesOn (fun _ => T (AV × Mem)) u
    (fun el => onSl x fun id r n _ => onK (tt el).u (rsIs M id (tt el).size (idxSl M i id r n)) (rsIs M id (tt el).size (idxSl M i id r n)))
    (fun len el => onPtr x fun id r c => onK (tt el).u (idxArr M i len (tt el).size id r c) (idxArr M i len (tt el).size id r c))
    (fun _ => .fail) .fail .fail .fail .fail

def byteAt (s : ByteArray) (i : Nat) : Int := ((s.data.toList.getD i 0).toNat : Int)
noncomputable def evIndex (tt : TT) (u : Und) (M : Mem) (x ix : AV) : T (AV × Mem) :=
  onI ix fun _ i => @Und.casesOn (fun _ => T (AV × Mem)) u
    (fun _ => .fail)
    (fun len el => onAgg x fun l => .br (decide (0 ≤ i)) (.br (decide (i < (len : Int))) (onK (tt el).u .fail ((sel l (i.toNat * (tt el).size)).bind fun y => .ret (y, M))) .fail) .fail)
    (fun _ => .fail)
    (onS x fun s => .br (decide (0 ≤ i)) (.br (decide (i < (s.size : Int))) (.ret (.i .u8 (byteAt s i.toNat), M)) .fail) .fail)
    .fail .fail .fail

noncomputable def onSt {β : Type} (u : Und) (f : List (Nat × TypeId × Nat) → T β) : T β := @Und.casesOn (fun _ => T β) u (fun _ => .fail) (fun _ _ => .fail) f .fail .fail .fail .fail
noncomputable def evFieldAddr (u : Und) (M : Mem) (x : AV) (f : Nat) : T (AV × Mem) :=
  onSt u fun fs => onPtr x fun id r c => onO (nth? fs f) fun fd => .br (Nat.beq fd.2.2 0) .fail (.ret (.ptr id r (c + fd.1), M))
noncomputable def evField (tt : TT) (u : Und) (M : Mem) (x : AV) (f : Nat) : T (AV × Mem) :=
  onSt u fun fs => onAgg x fun l => onO (nth? fs f) fun fd =>
    onK (tt fd.2.1).u (.ret (.agg ((l.drop fd.1).take fd.2.2), M)) ((sel l fd.1).bind fun y => .ret (y, M))

noncomputable def wrapS (m h n : Int) : Int := @Bool.rec (fun _ => Int) (n % m) (n % m - m) (decide (h ≤ n % m))
noncomputable def wr (k : IntKind) (n : Int) : Int :=
  @IntKind.casesOn (fun _ => Int) k (wrapS 256 128 n) (wrapS 65536 32768 n) (wrapS 4294967296 2147483648 n) (wrapS 18446744073709551616 9223372036854775808 n)
    (n % 256) (n % 65536) (n % 4294967296) (n % 18446744073709551616)
def bitsOf (k : IntKind) : Nat := k.bits
noncomputable def iRet (k : IntKind) (n : Int) : T AV := .ret (.i k (wr k n))
noncomputable def bAdd (k : IntKind) (a b : Int) : T AV := iRet k (a + b)
noncomputable def bSub (k : IntKind) (a b : Int) : T AV := iRet k (a - b)
noncomputable def bMul (k : IntKind) (a b : Int) : T AV := iRet k (a * b)
noncomputable def bQuo (k : IntKind) (a b : Int) : T AV := .br (b == 0) .fail (iRet k (a.tdiv b))
noncomputable def bRem (k : IntKind) (a b : Int) : T AV := .br (b == 0) .fail (.ret (.i k (a.tmod b)))
noncomputable def bAnd (k : IntKind) (a b : Int) : T AV := iRet k (BitVec.ofInt k.bits a &&& BitVec.ofInt k.bits b).toNat
noncomputable def bOr (k : IntKind) (a b : Int) : T AV := iRet k (BitVec.ofInt k.bits a ||| BitVec.ofInt k.bits b).toNat
noncomputable def bXor (k : IntKind) (a b : Int) : T AV := iRet k (BitVec.ofInt k.bits a ^^^ BitVec.ofInt k.bits b).toNat
noncomputable def bShl (k : IntKind) (a b : Int) : T AV := .br (decide (b < 0)) .fail (iRet k (a * 2 ^ (min b.toNat k.bits)))
noncomputable def bShr (k : IntKind) (a b : Int) : T AV := .br (decide (b < 0)) .fail (.ret (.i k (a.fdiv (2 ^ (min b.toNat k.bits)))))
noncomputable def bAndNot (k : IntKind) (a b : Int) : T AV := iRet k (BitVec.ofInt k.bits a &&& ~~~BitVec.ofInt k.bits b).toNat
def bEql (_ : IntKind) (a b : Int) : T AV := .ret (.b (a == b))
def bNeq (_ : IntKind) (a b : Int) : T AV := .ret (.b (a != b))
def bLss (_ : IntKind) (a b : Int) : T AV := .ret (.b (decide (a < b)))
def bLeq (_ : IntKind) (a b : Int) : T AV := .ret (.b (decide (a ≤ b)))
def bGtr (_ : IntKind) (a b : Int) : T AV := .ret (.b (decide (a > b)))
def bGeq (_ : IntKind) (a b : Int) : T AV := .ret (.b (decide (a ≥ b)))
noncomputable def binI (op : BinOp) (k : IntKind) (a b : Int) : T AV :=
  (@BinOp.casesOn (fun _ => IntKind → Int → Int → T AV) op bAdd bSub bMul bQuo bRem bAnd bOr bXor bShl bShr bAndNot bEql bNeq bLss bLeq bGtr bGeq) k a b
def sFail (_ _ : ByteArray) : T AV := .fail
def sAdd (a b : ByteArray) : T AV := .br (Nat.ble (a.size + b.size) 9223372036854775807) (.ret (.s (a ++ b))) .fail
def sEql (a b : ByteArray) : T AV := .ret (.b (a.toList == b.toList))
def sNeq (a b : ByteArray) : T AV := .ret (.b (!(a.toList == b.toList)))
def sLss (a b : ByteArray) : T AV := .ret (.b (Op.bytesLess a.toList b.toList))
def sLeq (a b : ByteArray) : T AV := .ret (.b (Op.bytesLess a.toList b.toList || a.toList == b.toList))
def sGtr (a b : ByteArray) : T AV := .ret (.b (!(Op.bytesLess a.toList b.toList || a.toList == b.toList)))
def sGeq (a b : ByteArray) : T AV := .ret (.b (!(Op.bytesLess a.toList b.toList)))
noncomputable def binS (op : BinOp) (a b : ByteArray) : T AV :=
  (@BinOp.casesOn (fun _ => ByteArray → ByteArray → T AV) op sAdd sFail sFail sFail sFail sFail sFail sFail sFail sFail sFail sEql sNeq sLss sLeq sGtr sGeq) a b
noncomputable def binB1 (op : BinOp) (a b : Bool) : T AV :=
  @BinOp.casesOn (fun _ => T AV) op .fail .fail .fail .fail .fail .fail .fail .fail .fail .fail .fail (.ret (.b (a == b))) (.ret (.b (!(a == b)))) .fail .fail .fail .fail
noncomputable def binB (ck : CK) (op : BinOp) (a b : Bool) : T AV := @CK.casesOn (fun _ => T AV) ck (fun _ => .fail) .fail (binB1 op a b) .fail .fail .fail .fail .fail
noncomputable def binW (P : Program) (op : BinOp) (t : TypeId) (x y : Operand) (a b : Value) : T AV :=
  onO (pureOf P (do eqGuard op t x y a b; binOp op t a b)) fun v => .ret (lift1 v)
def isAr : BinOp → Bool
  | .add | .sub | .mul | .quo => true
  | _ => false
/-- Floats: what is no NaN. -/
noncomputable def binF (op : BinOp) (k : FloatKind) (x y : Nat) : T AV := .br (floatBits op k x y).isSome (.ret (.v (.float k ((floatBits op k x y).getD 0)))) .fail
noncomputable def binV (P : Program) (op : BinOp) (t : TypeId) (x y : Operand) (a b : Value) : T AV :=
  match a, b with
  | .float k n, .float k' m => bif2 (isAr op) (.br (decide (k = k')) (binF op k n m) .fail) (binW P op t x y (.float k n) (.float k' m))
  | a, b => binW P op t x y a b
def isSh : BinOp → Bool
  | .shl | .shr => true
  | _ => false
noncomputable def binA (P : Program) (ck : CK) (op : BinOp) (t : TypeId) (x y : Operand) (a b : AV) : T AV :=
  @AV.casesOn (fun _ => T AV) a (fun k a => onI b fun k' b => bif2 (isSh op) (binI op k a b) (.br (decide (k = k')) (binI op k a b) .fail)) (fun a => onB b (binB ck op a)) (fun a => onS b (binS op a)) (fun a => onV b (binV P op t x y a))
    (fun _ _ _ => .fail) (fun _ _ _ _ => .fail) .fail (fun _ => .fail) (fun _ _ => .fail) (fun _ _ => .fail) (fun _ => .fail) (fun _ => .fail) .fail
noncomputable def unA (P : Program) (op : UnOp) (a : AV) : T AV :=
  @AV.casesOn (fun _ => T AV) a
    (fun k n => @UnOp.casesOn (fun _ => T AV) op (iRet k (0 - n)) (iRet k (BitVec.ofInt k.bits (bif k.signed then -1 else k.max) ^^^ BitVec.ofInt k.bits n).toNat) .fail .fail)
    (fun b => @UnOp.casesOn (fun _ => T AV) op .fail .fail (.ret (.b (!b))) .fail)
    (fun _ => .fail) (fun a => onO (pureOf P (Op.unary op a)) fun v => .ret (lift1 v))
    (fun _ _ _ => .fail) (fun _ _ _ _ => .fail) .fail (fun _ => .fail) (fun _ _ => .fail) (fun _ _ => .fail) (fun _ => .fail) (fun _ => .fail) .fail
noncomputable def cvI (P : Program) (ti : TI) (s d : TypeId) (k : IntKind) (n : Int) : T AV :=
  @CK.casesOn (fun _ => T AV) ti.kind (fun k' => iRet k' n) .fail .fail (onO (pureOf P (convert s d (.int k n))) fun v => .ret (lift1 v)) .fail .fail .fail .fail
noncomputable def cvV (P : Program) (s d : TypeId) (x : Value) : T AV := onO (pureOf P (convert s d x)) fun v => .ret (lift1 v)
noncomputable def convA (P : Program) (ti : TI) (s d : TypeId) (a : AV) : T AV :=
  @AV.casesOn (fun _ => T AV) a (cvI P ti s d) (fun _ => .fail) (fun x => cvV P s d (.string x)) (cvV P s d)
    (fun _ _ _ => .fail) (fun _ _ _ _ => .fail) .fail (fun _ => .fail) (fun _ _ => .fail) (fun _ _ => .fail) (fun _ => .fail) (fun _ => .fail) .fail

noncomputable def lenA (u : Und) (x : AV) : T AV :=
  @Und.casesOn (fun _ => T AV) u
    (fun _ => @AV.casesOn (fun _ => T AV) x (fun _ _ => .fail) (fun _ => .fail) (fun _ => .fail) (fun v => lenV v)
      (fun _ _ _ => .fail) (fun _ _ n _ => .ret (.i .i64 n)) (.ret (.i .i64 0)) (fun _ => .fail) (fun _ _ => .fail) (fun _ _ => .fail) (fun _ => .fail) (fun _ => .fail) .fail)
    (fun n _ => .ret (.i .i64 n)) (fun _ => .fail) (onS x fun s => .ret (.i .i64 s.size)) .fail .fail .fail
noncomputable def minI (a b : AV) : T AV := onI a fun k x => onI b fun _ y => .ret (.i k (if y < x then y else x))
noncomputable def maxI (a b : AV) : T AV := onI a fun k x => onI b fun _ y => .ret (.i k (if y > x then y else x))
noncomputable def fold2 (f : AV → AV → T AV) (l : List AV) : AV → T AV := @List.rec AV (fun _ => AV → T AV) (fun a => .ret a) (fun x _ ih a => (f a x).bind ih) l
noncomputable def foldA (f : AV → AV → T AV) (M : Mem) (l : List AV) : T (AV × Mem) := @List.casesOn AV (fun _ => T (AV × Mem)) l .fail fun x l => (fold2 f l x).bind fun v => .ret (v, M)
noncomputable def on2 {β : Type} (l : List AV) (f : AV → AV → T β) : T β := @List.casesOn AV (fun _ => T β) l .fail fun x l => @List.casesOn AV (fun _ => T β) l .fail fun y _ => f x y
noncomputable def ex2 {α β : Type} (l : List α) (f : α → α → T β) : T β := @List.casesOn α (fun _ => T β) l .fail fun x l => @List.casesOn α (fun _ => T β) l .fail fun y l => @List.casesOn α (fun _ => T β) l (f x y) fun _ _ => .fail
noncomputable def hd? {α β : Type} (l : List α) (f : α → T β) : T β := @List.casesOn α (fun _ => T β) l .fail fun x _ => f x

/-- A value without addresses goes into an interface as it is. -/
noncomputable def plainL (l : List AV) : Option (List Value) := @List.rec AV (fun _ => Option (List Value)) (some []) (fun x _ ih =>
  @Option.rec (List Value) (fun _ => Option (List Value)) none (fun r => @AV.casesOn (fun _ => Option (List Value)) x (fun k n => some (.int k n :: r)) (fun b => some (.bool b :: r)) (fun s => some (.string s :: r)) (fun v => some (v :: r))
    (fun _ _ _ => none) (fun _ _ _ _ => none) none (fun _ => none) (fun _ _ => none) (fun _ _ => none) (fun _ => none) (fun _ => none) none) ih) l
noncomputable def mkIfc (M : Mem) (t : TypeId) (x : AV) : T (AV × Mem) :=
  @AV.casesOn (fun _ => T (AV × Mem)) x (fun k n => .ret (.v (.iface t (.int k n)), M)) (fun b => .ret (.v (.iface t (.bool b)), M)) (fun s => .ret (.v (.iface t (.string s)), M)) (fun v => .ret (.v (.iface t v), M))
    (fun a b c => .ret (.ifc t (.ptr a b c), M)) (fun _ _ _ _ => .fail) .fail (fun _ => .fail) (fun _ _ => .fail) (fun _ _ => .fail) (fun l => onO (plainL l) fun vs => .ret (.v (.iface t (.agg vs.toArray)), M)) (fun _ => .fail) .fail
def isIface : Value → Bool
  | .iface _ _ => true
  | _ => false
noncomputable def evPanic (M : Mem) (x : AV) : T (AV × Mem) :=
  @AV.casesOn (fun _ => T (AV × Mem)) x (fun _ _ => .fail) (fun _ => .fail) (fun _ => .fail) (fun v => .br (isIface v) (.pan (.v v) M) .fail)
    (fun _ _ _ => .fail) (fun _ _ _ _ => .fail) .fail (fun _ => .fail) (fun _ _ => .fail) (fun t x => .pan (.ifc t x) M) (fun _ => .fail) (fun _ => .fail) .fail

/-! ### Aggregates and rows that are made -/
noncomputable def setAt (ps : List AV) : List AV → Nat → List AV := @List.rec AV (fun _ => List AV → Nat → List AV) (fun l _ => l) (fun x _ ih l off => ih (l.set off x) (off + 1)) ps
/-- A part is laid: where, how many cells. -/
noncomputable def layPart (off size : Nat) (x : AV) (l : List AV) (k : List AV → T (AV × Mem)) : T (AV × Mem) :=
  .br (allLeaf x.cells && (Nat.beq x.cells.length size && Nat.ble (off + size) l.length)) (k (setAt x.cells l off)) .fail
noncomputable def layAll (place : Nat → Option (Nat × Nat)) (st : Tmps) (ps : List (Nat × Operand)) : List AV → (List AV → T (AV × Mem)) → T (AV × Mem) :=
  @List.rec (Nat × Operand) (fun _ => List AV → (List AV → T (AV × Mem)) → T (AV × Mem)) (fun l k => k l) (fun p _ ih l k => onO (place p.1) fun q => layPart q.1 q.2 (evA st p.2) l fun l => ih l k) ps
noncomputable def evBuild (tt : TT) (ti : TI) (M : Mem) (st : Tmps) (ps : List (Nat × Operand)) : T (AV × Mem) :=
  @Und.casesOn (fun _ => T (AV × Mem)) ti.u (fun _ => .fail)
    (fun _ el => onK (tt el).u .fail (layAll (fun i => some (i * (tt el).size, (tt el).size)) st ps ti.zero fun l => .ret (.agg l, M)))
    (fun fs => layAll (fun i => @Option.rec (Nat × TypeId × Nat) (fun _ => Option (Nat × Nat)) none (fun f => some (f.1, f.2.2)) (nth? fs i)) st ps ti.zero fun l => .ret (.agg l, M))
    .fail .fail .fail .fail
noncomputable def tile (z : List AV) (n : Nat) : List AV := @Nat.rec (fun _ => List AV) [] (fun _ ih => z ++ ih) n
noncomputable def newRowA (M : Mem) (elem : TypeId) (rs n : Nat) (cells : List AV) : T (AV × Mem) :=
  .br (allLeaf cells && Nat.beq cells.length (n * rs)) (.ret (.sl M.next 0 n (some n), M.new (.own elem rs cells))) .fail
noncomputable def buildSl (ti : TI) (M : Mem) (st : Tmps) (el n : Nat) (ps : List (Nat × Operand)) : T (AV × Mem) :=
  .br (Nat.blt 0 ti.size && Nat.ble (n * ti.size) 16777216) (layAll (fun i => some (i * ti.size, ti.size)) st ps (tile ti.zero n) (newRowA M el ti.size n)) .fail
noncomputable def evBuildSlice (tt : TT) (u : Und) (M : Mem) (st : Tmps) (n : Nat) (ps : List (Nat × Operand)) : T (AV × Mem) :=
  @Und.casesOn (fun _ => T (AV × Mem)) u (fun el => onK (tt el).u (buildSl (tt el) M st el n ps) (buildSl (tt el) M st el n ps)) (fun _ _ => .fail) (fun _ => .fail) .fail .fail .fail .fail

/-! ### Pieces -/
noncomputable def optI (st : Tmps) (o : Option Operand) (d : Int) (k : Int → T (AV × Mem)) : T (AV × Mem) := @Option.rec Operand (fun _ => T (AV × Mem)) (k d) (fun x => onI (evA st x) fun _ i => k i) o
noncomputable def slStr (M : Mem) (s : ByteArray) (l h : Int) : T (AV × Mem) :=
  .br (decide (0 ≤ h)) (.br (decide (h ≤ (s.size : Int))) (.br (decide (0 ≤ l)) (.br (decide (l ≤ h)) (.ret (.s (s.extract l.toNat h.toNat), M)) .fail) .fail) .fail) .fail
noncomputable def capSub (cap : Option Nat) (l : Nat) : Option Nat := @Option.rec Nat (fun _ => Option Nat) none (fun c => some (c - l)) cap
noncomputable def slSl (M : Mem) (es id r n : Nat) (cap : Option Nat) (l h : Int) : T (AV × Mem) :=
  rsIs M id es (.br (decide (0 ≤ h)) (.br (decide (h ≤ (n : Int))) (.br (decide (0 ≤ l)) (.br (decide (l ≤ h))
    (.br (l == 0) (.ret (.sl id r h.toNat cap, M)) (.br (decide (l < h)) (.ret (.sl id (r + l.toNat) (h - l).toNat (capSub cap l.toNat), M)) (.ret (.e, M)))) .fail) .fail) .fail) .fail)
noncomputable def slMax (M : Mem) (id r n : Nat) (h m : Int) : T (AV × Mem) :=
  .br (decide (0 ≤ m)) (.br (decide (m ≤ (n : Int))) (.br (decide (0 ≤ h)) (.br (decide (h ≤ m)) (.ret (.sl id r h.toNat (some m.toNat), M)) .fail) .fail) .fail) .fail
noncomputable def nilSl {β : Type} (v : Value) (t : T β) : T β := match v with
  | .slice none 0 0 => t
  | _ => .fail
noncomputable def slNil (M : Mem) (l h m : Int) : T (AV × Mem) := .br (l == 0 && (h == 0 && m == 0)) (.ret (.v (.slice none 0 0), M)) .fail
noncomputable def slNilA (M : Mem) (st : Tmps) (lo hi mx : Option Operand) : T (AV × Mem) := @Option.rec Operand (fun _ => T (AV × Mem)) (optI st lo 0 fun l => optI st hi 0 fun h => slNil M l h 0) (fun _ => .fail) mx
noncomputable def slOf (tt : TT) (M : Mem) (st : Tmps) (el : TypeId) (x : AV) (lo hi mx : Option Operand) : T (AV × Mem) :=
  @AV.casesOn (fun _ => T (AV × Mem)) x (fun _ _ => .fail) (fun _ => .fail) (fun _ => .fail) (fun v => nilSl v (onK (tt el).u (slNilA M st lo hi mx) (slNilA M st lo hi mx)))
    (fun _ _ _ => .fail) (fun id r n cap => @Option.rec Operand (fun _ => T (AV × Mem)) (optI st lo 0 fun l => optI st hi n fun h => onK (tt el).u (slSl M (tt el).size id r n cap l h) (slSl M (tt el).size id r n cap l h))
      (fun m => onI (evA st m) fun _ m => optI st lo 0 fun l => .br (l == 0) (@Option.rec Operand (fun _ => T (AV × Mem)) .fail (fun h => onI (evA st h) fun _ h => onK (tt el).u (slMax M id r n h m) (slMax M id r n h m)) hi) .fail) mx)
    .fail (fun _ => .fail) (fun _ _ => .fail) (fun _ _ => .fail) (fun _ => .fail) (fun _ => .fail) .fail
noncomputable def evSlice (tt : TT) (u : Und) (M : Mem) (st : Tmps) (x : AV) (lo hi mx : Option Operand) : T (AV × Mem) :=
  @Und.casesOn (fun _ => T (AV × Mem)) u (fun el => slOf tt M st el x lo hi mx) (fun _ _ => .fail) (fun _ => .fail)
    (@Option.rec Operand (fun _ => T (AV × Mem)) (onS x fun s => optI st lo 0 fun l => optI st hi s.size fun h => slStr M s l h) (fun _ => .fail) mx) .fail .fail .fail

/-! ### append -/
/-- What stands in a row. -/
inductive AC where
  | cells (l : List AV)
  | cols (n : Nat) (l : List Col)
def Col.part (r n : Nat) : Col → Col
  | .ci k l => .ci k ((l.drop r).take n)
  | .cs l => .cs ((l.drop r).take n)
  | .cb l => .cb ((l.drop r).take n)
  | .cf k l => .cf k ((l.drop r).take n)
  | .cl h sub => .cl ((h.drop r).take n) (fun i => sub (r + i))
def Col.app : Col → Col → Option Col
  | .ci k l, .ci k' l' => if k = k' then some (.ci k (l ++ l')) else none
  | .cs l, .cs l' => some (.cs (l ++ l'))
  | .cb l, .cb l' => some (.cb (l ++ l'))
  | .cf k l, .cf k' l' => if k = k' then some (.cf k (l ++ l')) else none
  | _, _ => none
def colsApp : List Col → List Col → Option (List Col)
  | [], [] => some []
  | a :: l, b :: m => (Col.app a b).bind fun c => (colsApp l m).map (c :: ·)
  | _, _ => none
noncomputable def acOf (o : AObj) (r n : Nat) (f : AC → T (AV × Mem)) : T (AV × Mem) :=
  @AObj.casesOn (fun _ => T (AV × Mem)) o .fail
    (fun _ m cols => .br (Nat.ble (r + n) m) (f (.cols n (cols.map (Col.part r n)))) .fail)
    (fun _ rs cells => .br (Nat.ble ((r + n) * rs) cells.length && allLeaf ((cells.drop (r * rs)).take (n * rs))) (f (.cells ((cells.drop (r * rs)).take (n * rs)))) .fail)
    (fun _ m cols => .br (Nat.ble (r + n) m) (f (.cols n (cols.map (Col.part r n)))) .fail)
def iOf (k : IntKind) : AV → Option Int
  | .i k' n => if k = k' then some n else none
  | _ => none
def sOf : AV → Option ByteArray
  | .s x => some x
  | _ => none
def bOf : AV → Option Bool
  | .b x => some x
  | _ => none
def fOf : AV → Option Nat
  | .v (.float .f64 x) => some x
  | _ => none
/-- A row's column out of its cells. -/
def pick {α : Type} (f : AV → Option α) (rs c : Nat) (cells : List AV) : Nat → Option (List α)
  | 0 => some []
  | n + 1 => (pick f rs c cells n).bind fun l => ((cells[n * rs + c]?).bind f).map fun x => l ++ [x]
def colOf (rs c n : Nat) (cells : List AV) : CK → Option Col
  | .int k => (pick (iOf k) rs c cells n).map (.ci k)
  | .str => (pick sOf rs c cells n).map .cs
  | .bool => (pick bOf rs c cells n).map .cb
  | .flt => (pick fOf rs c cells n).map (.cf .f64)
  | _ => none
def colsOf (rs n : Nat) (cells : List AV) : Nat → List CK → Option (List Col)
  | _, [] => some []
  | c, k :: ks => (colOf rs c n cells k).bind fun x => (colsOf rs n cells (c + 1) ks).map (x :: ·)
def plainK : List CK → Bool
  | [] => true
  | .other :: _ => false
  | .ptr :: _ => false
  | .mp :: _ => false
  | .fnc :: _ => false
  | _ :: l => plainK l
noncomputable def normC (ti : TI) (n : Nat) (c : AC) : Option AC :=
  @AC.casesOn (fun _ => Option AC) c (fun l => bif2 (plainK ti.kinds) ((colsOf ti.size n l 0 ti.kinds).map (.cols n)) (some (.cells l))) (fun n l => some (.cols n l))
def joinC : AC → AC → Option AC
  | .cells l, .cells m => some (.cells (l ++ m))
  | .cols n l, .cols m r => (colsApp l r).map (.cols (n + m))
  | _, _ => none
noncomputable def objOf (el rs : Nat) (c : AC) : AObj := @AC.casesOn (fun _ => AObj) c (fun l => .own el rs l) (fun n l => .vec el n l)
noncomputable def okC (rs n : Nat) (c : AC) : Bool := @AC.casesOn (fun _ => Bool) c (fun l => allLeaf l && Nat.beq l.length (n * rs)) (fun m l => Nat.beq m n && Nat.beq l.length rs)
/-- The room that is asked for. -/
noncomputable def roomy (ti : TI) (n : Nat) (t : T (AV × Mem)) : T (AV × Mem) := .br (Nat.blt 0 ti.bytes && Nat.ble (n * ti.bytes) 140737488355328) t .fail
noncomputable def putNew (M : Mem) (el rs n : Nat) (c : AC) : T (AV × Mem) := .br (okC rs n c) (.ret (.sl M.next 0 n none, M.new (objOf el rs c))) .fail
noncomputable def appNil (ti : TI) (M : Mem) (el m : Nat) (s : AV) (c : AC) : T (AV × Mem) :=
  .br (Nat.beq m 0) (.ret (s, M)) (roomy ti m (onO (normC ti m c) (putNew M el ti.size m)))
noncomputable def appOwn (ti : TI) (M : Mem) (el id n m : Nat) (c : AC) : T (AV × Mem) :=
  @AObj.casesOn (fun _ => T (AV × Mem)) (M.get id) .fail (fun _ _ _ => .fail) (fun e _ _ => .br (Nat.beq e el) appOwn1 .fail) (fun e _ _ => .br (Nat.beq e el) appOwn1 .fail)
where appOwn1 : T (AV × Mem) := .br (Nat.ble M.lock id) (acOf (M.get id) 0 n fun d => roomy ti (n + m) (onO (normC ti n d) fun d => onO (normC ti m c) fun c => onO (joinC d c) (putNew (M.set id .dead) el ti.size (n + m)))) .fail
noncomputable def appSl (ti : TI) (M : Mem) (el m id r n : Nat) (cap : Option Nat) (c : AC) : T (AV × Mem) :=
  @Option.rec Nat (fun _ => T (AV × Mem)) (.br (Nat.beq r 0) (rsIs M id ti.size (appOwn ti M el id n m c)) .fail)
    (fun k => bif2 (Nat.beq k 0) (appNil ti M el m (.sl id r n cap) c) (.br (Nat.beq r 0) (rsIs M id ti.size (appOwn ti M el id n m c)) .fail)) cap
noncomputable def appTo (ti : TI) (M : Mem) (el m : Nat) (s : AV) (c : AC) : T (AV × Mem) :=
  @AV.casesOn (fun _ => T (AV × Mem)) s (fun _ _ => .fail) (fun _ => .fail) (fun _ => .fail) (fun v => nilSl v (appNil ti M el m (.v v) c))
    (fun _ _ _ => .fail) (fun id r n cap => appSl ti M el m id r n cap c) .fail (fun _ => .fail) (fun _ _ => .fail) (fun _ _ => .fail) (fun _ => .fail) (fun _ => .fail) .fail
def bytesCol (s : ByteArray) : List Int := s.data.toList.map fun b => (b.toNat : Int)
noncomputable def appSrc (tx : Und) (ti : TI) (M : Mem) (el : Nat) (s x : AV) : T (AV × Mem) :=
  @Und.casesOn (fun _ => T (AV × Mem)) tx
    (fun _ => @AV.casesOn (fun _ => T (AV × Mem)) x (fun _ _ => .fail) (fun _ => .fail) (fun _ => .fail) (fun v => nilSl v (appTo ti M el 0 s (.cells [])))
      (fun _ _ _ => .fail) (fun id r m _ => rsIs M id ti.size (acOf (M.get id) r m fun c => appTo ti M el m s c)) .fail (fun _ => .fail) (fun _ _ => .fail) (fun _ _ => .fail) (fun _ => .fail) (fun _ => .fail) .fail)
    (fun _ _ => .fail) (fun _ => .fail) (onS x fun b => .br (Nat.beq ti.size 1) (appTo ti M el b.size s (.cols b.size [.ci .u8 (bytesCol b)])) .fail) .fail .fail .fail
noncomputable def evAppend (tt : TT) (M : Mem) (t tx : TypeId) (s x : AV) : T (AV × Mem) :=
  @Und.casesOn (fun _ => T (AV × Mem)) (tt t).u (fun el => onK (tt el).u (onK (tt tx).u .fail (appSrc (tt tx).u (tt el) M el s x)) (onK (tt tx).u .fail (appSrc (tt tx).u (tt el) M el s x))) (fun _ _ => .fail) (fun _ => .fail) .fail .fail .fail .fail

noncomputable def builtinA (tt : TT) (M : Mem) (b : Builtin) (ts : List TypeId) (l : List AV) : T (AV × Mem) :=
  match b with
  | .len => hd? ts fun t => hd? l fun x => onK (tt t).u ((lenA (tt t).u x).bind fun v => .ret (v, M)) ((lenA (tt t).u x).bind fun v => .ret (v, M))
  | .min => foldA minI M l
  | .max => foldA maxI M l
  | .append => ex2 l fun s x => ex2 ts fun t tx => evAppend tt M t tx s x
  | _ => .fail
noncomputable def callA (callF : FuncId → List AV → Mem → T (AV × Mem)) (M : Mem) (l : List AV) (f : Fn) (caps : List AV) : T (AV × Mem) :=
  @Fn.casesOn (fun _ => T (AV × Mem)) f (fun f => callF f (l ++ caps) M) (fun _ => .fail) (fun _ _ => .fail) (fun _ _ _ _ => .fail) (fun _ => .fail)
noncomputable def evCall (tt : TT) (callF : FuncId → List AV → Mem → T (AV × Mem)) (M : Mem) (st : Tmps) (c : Call) : T (AV × Mem) :=
  @Callee.casesOn (fun _ => T (AV × Mem)) c.callee (fun f => onFn (evA st f) (callA callF M (c.args.toList.map (evA st)))) (fun _ _ => .fail) (fun b => builtinA tt M b c.argTypes.toList (c.args.toList.map (evA st)))
noncomputable def retM (M : Mem) (x : T AV) : T (AV × Mem) := x.bind fun v => .ret (v, M)
/-! ### More that is compared -/
noncomputable def cmpR (op : BinOp) (M : Mem) (r : Bool) : T (AV × Mem) :=
  @BinOp.casesOn (fun _ => T (AV × Mem)) op .fail .fail .fail .fail .fail .fail .fail .fail .fail .fail .fail (.ret (.b r, M)) (.ret (.b (!r), M)) .fail .fail .fail .fail
noncomputable def eqCell {β : Type} (k : CK) (a b : AV) (f : Bool → T β) : T β :=
  @CK.casesOn (fun _ => T β) k (fun _ => onI a fun ka x => onI b fun kb y => .br (decide (ka = kb)) (f (x == y)) .fail) (onS a fun x => onS b fun y => f (x.toList == y.toList)) (onB a fun x => onB b fun y => f (x == y)) .fail .fail .fail .fail .fail
noncomputable def eqFs {β : Type} (tt : TT) (l m : List AV) (fs : List (Nat × TypeId × Nat)) : (Bool → T β) → T β :=
  @List.rec (Nat × TypeId × Nat) (fun _ => (Bool → T β) → T β) (fun k => k true) (fun f _ ih k => (sel l f.1).bind fun a => (sel m f.1).bind fun b => onK (tt f.2.1).u .fail (eqCell (tt f.2.1).kind a b fun r => ih fun s => k (r && s))) fs
noncomputable def eqAgg (tt : TT) (t : TypeId) (op : BinOp) (M : Mem) (l : List AV) (b : AV) : T (AV × Mem) :=
  onAgg b fun m => onSt (tt t).u fun fs => .br (tt t).cmp (eqFs tt l m fs (cmpR op M)) .fail
noncomputable def ifK {β : Type} (k : CK) (p m f : T β) : T β := @CK.casesOn (fun _ => T β) k (fun _ => .fail) .fail .fail .fail p m f .fail
noncomputable def onUsl {β : Type} (u : Und) (t : T β) : T β := @Und.casesOn (fun _ => T β) u (fun _ => t) (fun _ _ => .fail) (fun _ => .fail) .fail .fail .fail .fail
noncomputable def onUifc {β : Type} (u : Und) (t : T β) : T β := @Und.casesOn (fun _ => T β) u (fun _ => .fail) (fun _ _ => .fail) (fun _ => .fail) .fail .fail t .fail
noncomputable def nilFlag {β : Type} (o : AObj) (f : Bool → T β) : T β := @AObj.casesOn (fun _ => T β) o .fail (fun b _ _ => f b) (fun _ _ _ => f false) (fun _ _ _ => f false)
noncomputable def nilPtr {β : Type} (v : Value) (t : T β) : T β := match v with
  | .pointer none => t
  | _ => .fail
noncomputable def nilMap {β : Type} (v : Value) (t : T β) : T β := match v with
  | .map none => t
  | _ => .fail
noncomputable def nilFn {β : Type} (v : Value) (t : T β) : T β := match v with
  | .nilFunc => t
  | _ => .fail
noncomputable def nilIfc {β : Type} (v : Value) (t : T β) : T β := match v with
  | .nilIface => t
  | _ => .fail
/-- What has an address, beside nil. -/
noncomputable def nilA {β : Type} (M : Mem) (ti : TI) (a : AV) (v : Value) (f : Bool → T β) : T β :=
  @AV.casesOn (fun _ => T β) a (fun _ _ => .fail) (fun _ => .fail) (fun _ => .fail) (fun _ => .fail) (fun _ _ _ => nilPtr v (ifK ti.kind (f false) .fail .fail)) (fun id _ _ _ => nilSl v (onUsl ti.u (nilFlag (M.get id) f)))
    (nilSl v (onUsl ti.u (f false))) (fun _ => nilMap v (ifK ti.kind .fail (f false) .fail)) (fun _ _ => nilFn v (ifK ti.kind .fail .fail (f false))) (fun _ _ => nilIfc v (onUifc ti.u (f false))) (fun _ => .fail) (fun _ => .fail) .fail
noncomputable def addrA (a : AV) : Bool :=
  @AV.casesOn (fun _ => Bool) a (fun _ _ => false) (fun _ => false) (fun _ => false) (fun _ => false) (fun _ _ _ => true) (fun _ _ _ _ => true) true (fun _ => true) (fun _ _ => true) (fun _ _ => true) (fun _ => false) (fun _ => false) false
noncomputable def evBin (P : Program) (tt : TT) (M : Mem) (op : BinOp) (t : TypeId) (x y : Operand) (a b : AV) : T (AV × Mem) :=
  bif2 (addrA a) (onV b fun v => nilA M (tt t) a v (cmpR op M)) (bif2 (addrA b) (onV a fun v => nilA M (tt t) b v (cmpR op M))
    (@AV.casesOn (fun _ => T (AV × Mem)) a (fun _ _ => retM M (binA P (tt t).kind op t x y a b)) (fun _ => retM M (binA P (tt t).kind op t x y a b)) (fun _ => retM M (binA P (tt t).kind op t x y a b)) (fun _ => retM M (binA P (tt t).kind op t x y a b))
      (fun _ _ _ => .fail) (fun _ _ _ _ => .fail) .fail (fun _ => .fail) (fun _ _ => .fail) (fun _ _ => .fail) (fun l => eqAgg tt t op M l b) (fun _ => .fail) .fail))

/-! ### Strings and bytes -/
noncomputable def ifU8 {β : Type} (k : CK) (t : T β) : T β := @CK.casesOn (fun _ => T β) k (fun k => @IntKind.casesOn (fun _ => T β) k .fail .fail .fail .fail t .fail .fail .fail) .fail .fail .fail .fail .fail .fail .fail
noncomputable def toBytes (M : Mem) (el : TypeId) (b : ByteArray) : T (AV × Mem) := .ret (.sl M.next 0 b.size none, M.new (.vec el b.size [.ci .u8 (bytesCol b)]))
noncomputable def strOf (l : List Int) : ByteArray := ⟨(l.map fun n => UInt8.ofNat n.toNat).toArray⟩
def u8col : AC → Option (List Int)
  | .cols _ [.ci .u8 l] => some l
  | _ => none
noncomputable def ofBytes (ti : TI) (M : Mem) (id r n : Nat) : T (AV × Mem) :=
  .br (Nat.beq ti.size 1) (rsIs M id ti.size (acOf (M.get id) r n fun c => onO (normC ti n c) fun c => onO (u8col c) fun l => .ret (.s (strOf l), M))) .fail
noncomputable def onUslE {β : Type} (u : Und) (f : TypeId → T β) : T β := @Und.casesOn (fun _ => T β) u f (fun _ _ => .fail) (fun _ => .fail) .fail .fail .fail .fail
noncomputable def markSl (M : Mem) (id r n : Nat) (cap : Option Nat) : T (AV × Mem) :=
  @AObj.casesOn (fun _ => T (AV × Mem)) (M.get id) .fail (fun _ _ _ => .fail) (fun _ _ _ => .br (Nat.ble M.lock id) (.ret (.sl id r n cap, M)) .fail) (fun _ _ _ => .br (Nat.ble M.lock id) (.ret (.sl id r n cap, M)) .fail)
noncomputable def evConv (P : Program) (tt : TT) (M : Mem) (s d : TypeId) (x : AV) : T (AV × Mem) :=
  @AV.casesOn (fun _ => T (AV × Mem)) x (fun _ _ => retM M (convA P (tt d) s d x)) (fun _ => retM M (convA P (tt d) s d x))
    (fun b => @Und.casesOn (fun _ => T (AV × Mem)) (tt d).u (fun el => onK (tt el).u .fail (ifU8 (tt el).kind (toBytes M el b))) (fun _ _ => .fail) (fun _ => .fail) (retM M (convA P (tt d) s d x)) .fail .fail .fail)
    (fun _ => retM M (convA P (tt d) s d x)) (fun _ _ _ => .fail)
    (fun id r n cap => @Und.casesOn (fun _ => T (AV × Mem)) (tt d).u (fun el => .br (Nat.beq s d) (onK (tt el).u .fail (ifU8 (tt el).kind (markSl M id r n cap))) .fail) (fun _ _ => .fail) (fun _ => .fail) (onUslE (tt s).u fun el => onK (tt el).u .fail (ifU8 (tt el).kind (ofBytes (tt el) M id r n))) .fail .fail .fail)
    .fail (fun _ => .fail) (fun _ _ => .fail) (fun _ _ => .fail) (fun _ => .fail) (fun _ => .fail) .fail
/-- What an operation is told. -/
structure Ctx where
  P : Program
  tt : TT
  callF : FuncId → List AV → Mem → T (AV × Mem)
  M : Mem
  st : Tmps
abbrev OpR := Ctx → T (AV × Mem)
noncomputable def op_move (x : Operand) (K : Ctx) : T (AV × Mem) := .ret (evA K.st x, K.M)
noncomputable def op_assign (x : Operand) (K : Ctx) : T (AV × Mem) := .ret (evA K.st x, K.M)
noncomputable def op_pick (c : Operand) (a : Operand) (b : Operand) (K : Ctx) : T (AV × Mem) := onB (evA K.st c) fun t => .br t (.ret (evA K.st a, K.M)) (.ret (evA K.st b, K.M))
noncomputable def op_alloc (e : TypeId) (K : Ctx) : T (AV × Mem) := onK (K.tt e).u (newOwn K.M e (K.tt e).size (K.tt e).zero) (newOwn K.M e (K.tt e).size (K.tt e).zero)
noncomputable def op_box (e : TypeId) (x : Operand) (K : Ctx) : T (AV × Mem) := newOwn K.M e (evA K.st x).cells.length (evA K.st x).cells
noncomputable def op_build (t : TypeId) (ps : Array (Nat × Operand)) (K : Ctx) : T (AV × Mem) := evBuild K.tt (K.tt t) K.M K.st ps.toList
noncomputable def op_buildSlice (t : TypeId) (n : Nat) (ps : Array (Nat × Operand)) (K : Ctx) : T (AV × Mem) := evBuildSlice K.tt (K.tt t).u K.M K.st n ps.toList
noncomputable def op_load (t : TypeId) (a : Operand) (K : Ctx) : T (AV × Mem) := evLoad (K.tt t) K.M (evA K.st a)
noncomputable def op_store (t : TypeId) (a : Operand) (x : Operand) (K : Ctx) : T (AV × Mem) := evStore (K.tt t) K.M (evA K.st a) (evA K.st x)
noncomputable def op_nilCheck (x : Operand) (K : Ctx) : T (AV × Mem) := onPtr (evA K.st x) fun id r c => .ret (.ptr id r c, K.M)
noncomputable def op_binOp (op : BinOp) (t : TypeId) (x : Operand) (y : Operand) (_x4 : TypeId) (K : Ctx) : T (AV × Mem) := onK (K.tt t).u (evBin K.P K.tt K.M op t x y (evA K.st x) (evA K.st y)) (evBin K.P K.tt K.M op t x y (evA K.st x) (evA K.st y))
noncomputable def op_unOp (op : UnOp) (_x1 : TypeId) (x : Operand) (K : Ctx) : T (AV × Mem) := retM K.M (unA K.P op (evA K.st x))
noncomputable def op_convert (s : TypeId) (d : TypeId) (x : Operand) (K : Ctx) : T (AV × Mem) := onK (K.tt d).u .fail (evConv K.P K.tt K.M s d (evA K.st x))
noncomputable def op_makeInterface (t : TypeId) (x : Operand) (K : Ctx) : T (AV × Mem) := onC (K.tt t).u (mkIfc K.M t (evA K.st x))
noncomputable def op_slice (t : TypeId) (x : Operand) (lo : Option Operand) (hi : Option Operand) (mx : Option Operand) (K : Ctx) : T (AV × Mem) := evSlice K.tt (K.tt t).u K.M K.st (evA K.st x) lo hi mx
noncomputable def op_fieldAddr (t : TypeId) (x : Operand) (f : Nat) (K : Ctx) : T (AV × Mem) := evFieldAddr (K.tt t).u K.M (evA K.st x) f
noncomputable def op_field (t : TypeId) (x : Operand) (f : Nat) (K : Ctx) : T (AV × Mem) := evField K.tt (K.tt t).u K.M (evA K.st x) f
noncomputable def op_indexAddr (t : TypeId) (x : Operand) (ix : Operand) (K : Ctx) : T (AV × Mem) := evIndexAddr K.tt (K.tt t).u K.M (evA K.st x) (evA K.st ix)
noncomputable def op_index (t : TypeId) (x : Operand) (ix : Operand) (K : Ctx) : T (AV × Mem) := evIndex K.tt (K.tt t).u K.M (evA K.st x) (evA K.st ix)
noncomputable def op_extract (t : Operand) (ix : Nat) (K : Ctx) : T (AV × Mem) := onTup (evA K.st t) fun l => (sel l ix).bind fun v => .ret (v, K.M)
noncomputable def op_call (c : Call) (K : Ctx) : T (AV × Mem) := evCall K.tt K.callF K.M K.st c
noncomputable def op_panic (x : Operand) (K : Ctx) : T (AV × Mem) := evPanic K.M (evA K.st x)
noncomputable def evOp (c : Ctx) (o : Op) : T (AV × Mem) :=
  (@Op.casesOn (fun _ => OpR) o
    op_move
    op_assign
    op_pick
    op_alloc
    op_box
    op_build
    op_buildSlice
    (fun _ _ _ _ _ => .fail)  -- insert
    op_load
    op_store
    (fun _ _ => .fail)  -- ready
    (fun _ _ => .fail)  -- waits
    op_nilCheck
    op_binOp
    op_unOp
    op_convert
    (fun _ _ _ => .fail)  -- sliceToArrayPointer
    op_makeInterface
    (fun _ _ _ _ => .fail)  -- makeFunc
    (fun _ _ _ => .fail)  -- makeMap
    (fun _ _ _ => .fail)  -- makeChan
    (fun _ _ _ _ => .fail)  -- makeSlice
    op_slice
    op_fieldAddr
    op_field
    op_indexAddr
    op_index
    (fun _ _ _ _ _ => .fail)  -- lookup
    (fun _ _ _ _ _ => .fail)  -- mapUpdate
    (fun _ _ _ _ => .fail)  -- mapEntry
    (fun _ _ _ _ _ => .fail)  -- entryStore
    (fun _ _ _ => .fail)  -- range
    (fun _ _ _ => .fail)  -- next
    (fun _ _ => .fail)  -- entry
    (fun _ _ _ _ _ => .fail)  -- typeAssert
    op_extract
    op_call
    (fun _ _ => .fail)  -- go
    (fun _ _ => .fail)  -- defer
    op_panic
    (fun _ _ _ => .fail)  -- send
    (fun _ _ _ _ => .fail)  -- recv
    (fun _ _ _ => .fail)
    ) c

/-! ## Code -/
inductive X where
  | normal | exit (id : Nat) | ret

noncomputable def putA (d : Option Tmp) (st : Tmps) (v : AV) : Tmps := @Option.rec Nat (fun _ => Tmps) st (fun d t => @Bool.rec (fun _ => AV) (st t) v (Nat.beq t d)) d
abbrev NextK := Tmps → Mem → T (Tmps × Mem)
def isBoolV : Value → Bool
  | .bool _ => true
  | _ => false
noncomputable def yC (x : AV) (f : Bool → T (Tmps × Mem)) (none : T (Tmps × Mem)) : T (Tmps × Mem) :=
  @AV.casesOn (fun _ => T (Tmps × Mem)) x (fun _ _ => none) f (fun _ => none) (fun v => .br (isBoolV v) .fail none)
    (fun _ _ _ => none) (fun _ _ _ _ => none) none (fun _ => none) (fun _ _ => none) (fun _ _ => none) (fun _ => none) (fun _ => none) .fail
noncomputable def yB (st : Tmps) (o : Oper) (f : Bool → T (Tmps × Mem)) (none : T (Tmps × Mem)) : T (Tmps × Mem) :=
  @Option.rec Nat (fun _ => T (Tmps × Mem)) .fail (fun d => yC (st d) f none) o.dst
noncomputable def guarded (all : List Oper) (st : Tmps) (M : Mem) (o : Oper) (ih : NextK) (go : Tmps → T (Tmps × Mem)) (g : Nat × Bool) : T (Tmps × Mem) :=
  @Option.rec Oper (fun _ => T (Tmps × Mem)) .fail (fun p => yB st p (fun b => .br (b == g.2) (go (putA p.dst st (.b g.2))) (ih (putA o.dst (putA p.dst st (.b (!g.2))) (.v undef)) M)) (ih (putA o.dst st (.v undef)) M)) (nth? all g.1)
noncomputable def evOps (P : Program) (tt : TT) (callF : FuncId → List AV → Mem → T (AV × Mem)) (all : List Oper) (l : List Oper) : NextK :=
  @List.rec Oper (fun _ => NextK) (fun st M => .ret (st, M)) (fun o _ ih st M =>
    @Option.rec (Nat × Bool) (fun _ => T (Tmps × Mem)) ((evOp ⟨P, tt, callF, M, st⟩ o.op).bind fun x => ih (putA o.dst st x.1) x.2)
      (guarded all st M o ih fun st => (evOp ⟨P, tt, callF, M, st⟩ o.op).bind fun x => ih (putA o.dst st x.1) x.2) o.guard) l

noncomputable def forceN {R : Type} (n : Nat) (k : Nat → R) : R := @Nat.casesOn (fun _ => R) n (k 0) (fun m => k (Nat.succ m))
noncomputable def forceI {R : Type} (a : IntKind) (n : Int) (k : AV → R) : R := @Int.casesOn (fun _ => R) n (fun m => forceN m fun m => k (.i a (.ofNat m))) (fun m => forceN m fun m => k (.i a (.negSucc m)))
noncomputable def forceA0 {R : Type} (x : AV) (k : AV → R) : R :=
  @AV.casesOn (fun _ => R) x (fun a n => forceI a n k) (fun b => @Bool.rec (fun _ => R) (k (.b false)) (k (.b true)) b) (fun s => k (.s s)) (fun v => k (.v v))
    (fun a b c => forceN a fun a => forceN b fun b => forceN c fun c => k (.ptr a b c)) (fun a b c d => forceN a fun a => forceN b fun b => forceN c fun c => k (.sl a b c d)) (k .e) (fun a => forceN a fun a => k (.mp a)) (fun a b => k (.fn a b)) (fun a b => k (.ifc a b)) (fun a => k (.agg a)) (fun a => k (.tup a)) (k .top)
noncomputable def forceL0 {R : Type} (l : List AV) : (List AV → R) → R := @List.rec AV (fun _ => (List AV → R) → R) (fun k => k []) (fun x _ ih k => forceA0 x fun x => ih fun l => k (x :: l)) l
noncomputable def forceA {R : Type} (x : AV) (k : AV → R) : R :=
  @AV.casesOn (fun _ => R) x (fun a n => forceA0 (.i a n) k) (fun b => forceA0 (.b b) k) (fun s => k (.s s)) (fun v => k (.v v))
    (fun a b c => forceA0 (.ptr a b c) k) (fun a b c d => forceA0 (.sl a b c d) k) (k .e) (fun a => forceA0 (.mp a) k) (fun a b => forceL0 b fun b => k (.fn a b)) (fun a b => forceA0 b fun b => k (.ifc a b)) (fun a => forceL0 a fun a => k (.agg a)) (fun a => forceL0 a fun a => k (.tup a)) (k .top)
noncomputable def forceL {R : Type} (l : List AV) : (List AV → R) → R := @List.rec AV (fun _ => (List AV → R) → R) (fun k => k []) (fun x _ ih k => forceA x fun x => ih fun l => k (x :: l)) l
noncomputable def forceNs {R : Type} (l : List Nat) : (List Nat → R) → R := @List.rec Nat (fun _ => (List Nat → R) → R) (fun k => k []) (fun x _ ih k => forceN x fun x => ih fun l => k (x :: l)) l
noncomputable def forceO {R : Type} (o : AObj) (k : AObj → R) : R :=
  @AObj.casesOn (fun _ => R) o (k .dead) (fun a n c => k (.ro a n c)) (fun e rs l => forceL l fun l => k (.own e rs l)) (fun e n c => k (.vec e n c))
noncomputable def forceOs {R : Type} (f : Nat → AObj) (l : List Nat) : (List AObj → R) → R := @List.rec Nat (fun _ => (List AObj → R) → R) (fun k => k []) (fun x _ ih k => forceO (f x) fun x => ih fun l => k (x :: l)) l
noncomputable def mapL {α β : Type} (f : α → β) (l : List α) : List β := @List.rec α (fun _ => List β) [] (fun x _ ih => f x :: ih) l
noncomputable def catL {α β : Type} (f : α → List β) (l : List α) : List β := @List.rec α (fun _ => List β) [] (fun x _ ih => f x ++ ih) l

/-! ### New objects under new numbers -/
abbrev Rho := Nat → Option Nat
noncomputable def onId (x : Option Nat) (f : Nat → AV) : AV := @Option.rec Nat (fun _ => AV) .top f x
noncomputable def ren0 (ρ : Rho) (x : AV) : AV :=
  @AV.casesOn (fun _ => AV) x .i .b .s .v (fun id r c => onId (ρ id) fun j => .ptr j r c) (fun id r n cap => onId (ρ id) fun j => .sl j r n cap) .e (fun id => onId (ρ id) .mp)
    (fun f l => @List.casesOn AV (fun _ => AV) l (.fn f []) (fun _ _ => .top)) (fun _ _ => .top) (fun _ => .top) (fun _ => .top) .top
noncomputable def ren1 (ρ : Rho) (x : AV) : AV :=
  @AV.casesOn (fun _ => AV) x .i .b .s .v (fun id r c => onId (ρ id) fun j => .ptr j r c) (fun id r n cap => onId (ρ id) fun j => .sl j r n cap) .e (fun id => onId (ρ id) .mp)
    (fun f l => .fn f (mapL (ren0 ρ) l)) (fun t x => .ifc t (ren0 ρ x)) (fun l => .agg (mapL (ren0 ρ) l)) (fun l => .tup (mapL (ren0 ρ) l)) .top
noncomputable def renO (ρ : Rho) (o : AObj) : AObj := @AObj.casesOn (fun _ => AObj) o .dead .ro (fun e rs l => .own e rs (mapL (ren1 ρ) l)) .vec
noncomputable def ids0 (x : AV) : List Nat :=
  @AV.casesOn (fun _ => List Nat) x (fun _ _ => []) (fun _ => []) (fun _ => []) (fun _ => []) (fun id _ _ => [id]) (fun id _ _ _ => [id]) [] (fun id => [id]) (fun _ _ => []) (fun _ _ => []) (fun _ => []) (fun _ => []) []
noncomputable def ids1 (x : AV) : List Nat :=
  @AV.casesOn (fun _ => List Nat) x (fun _ _ => []) (fun _ => []) (fun _ => []) (fun _ => []) (fun id _ _ => [id]) (fun id _ _ _ => [id]) [] (fun id => [id]) (fun _ l => catL ids0 l) (fun _ x => ids0 x) (fun l => catL ids0 l) (fun l => catL ids0 l) []
noncomputable def idsO (o : AObj) : List Nat := @AObj.casesOn (fun _ => List Nat) o [] (fun _ _ _ => []) (fun _ _ l => catL ids1 l) (fun _ _ _ => [])
noncomputable def memN (x : Nat) (l : List Nat) : Bool := @List.rec Nat (fun _ => Bool) false (fun y _ ih => bif2 (Nat.beq y x) true ih) l
noncomputable def walk (M : Mem) (fuel : Nat) : List Nat → List Nat → List Nat :=
  @Nat.rec (fun _ => List Nat → List Nat → List Nat) (fun _ seen => seen) (fun _ ih todo seen =>
    @List.casesOn Nat (fun _ => List Nat) todo seen fun id rest => bif2 (memN id seen) (ih rest seen) (ih (rest ++ idsO (M.get id)) (seen ++ [id]))) fuel
noncomputable def newOnly (base : Nat) (l : List Nat) : List Nat := @List.rec Nat (fun _ => List Nat) [] (fun x _ ih => bif2 (Nat.ble base x) (x :: ih) ih) l
noncomputable def liveOk (base : Nat) (l : List Nat) : Bool := @List.rec Nat (fun _ => Bool) true (fun x l ih => bif2 (Nat.ble base x) (bif2 (memN x l) false ih) false) l
noncomputable def idxOf (l : List Nat) (id : Nat) : Nat → Option Nat := @List.rec Nat (fun _ => Nat → Option Nat) (fun _ => none) (fun x _ ih b => bif2 (Nat.beq x id) (some b) (ih (b + 1))) l
noncomputable def rhoOf (base : Nat) (live : List Nat) : Rho := fun id => bif2 (Nat.blt id base) (some id) (idxOf live id base)
noncomputable def nthO (l : List AObj) (i : Nat) : AObj := @Option.rec AObj (fun _ => AObj) .dead (fun o => o) (nth? l i)
noncomputable def laid (base lock : Nat) (g : Nat → AObj) (objs : List AObj) : Mem := ⟨base + objs.length, lock, fun j => bif2 (Nat.blt j base) (g j) (nthO objs (j - base))⟩
noncomputable def compact {β : Type} (base : Nat) (vals : List AV) (M : Mem) (k : (AV → AV) → Mem → T β) : T β :=
  bif2 (Nat.beq M.next base) (k (fun x => x) M)
    (forceNs (newOnly base (walk M 200 (catL ids1 vals) [])) fun live =>
      .br (bif2 (Nat.ble M.lock base) (liveOk base live) false) (forceOs (fun id => renO (rhoOf base live) (M.get id)) live fun objs => k (ren1 (rhoOf base live)) (laid base M.lock (fun j => renO (rhoOf base live) (M.get j)) objs)) .fail)
noncomputable def compactU {β : Type} (base : Nat) (vals : List AV) (M : Mem) (k : (AV → AV) → Mem → T β) : T β :=
  bif2 (Nat.beq M.next base) (k (fun x => x) M)
    (.br (bif2 (Nat.ble M.lock base) (liveOk base (newOnly base (walk M 200 (catL ids1 vals) []))) false)
      (k (ren1 (rhoOf base (newOnly base (walk M 200 (catL ids1 vals) [])))) (laid base M.lock (fun j => renO (rhoOf base (newOnly base (walk M 200 (catL ids1 vals) []))) (M.get j)) (mapL (fun id => renO (rhoOf base (newOnly base (walk M 200 (catL ids1 vals) []))) (M.get id)) (newOnly base (walk M 200 (catL ids1 vals) []))))) .fail)
/-- A memory told by its list of objects; slots told by a list of values. -/
noncomputable def iota (n : Nat) : List Nat := @Nat.rec (fun _ => List Nat) [] (fun n ih => ih ++ [n]) n
noncomputable def memL (lock : Nat) (l : List AObj) : Mem := ⟨l.length, lock, nthO l⟩
noncomputable def sealM (M : Mem) : Mem := memL M.lock (mapL M.get (iota M.next))
/-! ### A region that draws its order: its first operations write nothing that is there, and each is told what it needs alone -/
def bindsE (e : Edge) : Bool := Region.binds .any e
noncomputable def ancOf (mk : Nat → Nat) (es : List Edge) : Nat := @List.rec Edge (fun _ => Nat) 0 (fun e _ ih => bif2 (bindsE e) (Nat.lor (Nat.lor (mk e.on) (Nat.shiftLeft 1 e.on)) ih) ih) es
/-- The operations that stand ahead of each one. -/
noncomputable def masks (l : List Oper) : Nat → (Nat → Nat) → (Nat → Nat) :=
  @List.rec Oper (fun _ => Nat → (Nat → Nat) → (Nat → Nat)) (fun _ mk => mk) (fun o _ ih j mk => ih (j + 1) (upd mk j (ancOf mk o.after.toList))) l
/-! What has no memory, and is asked for by nobody who doesn't wait for it. -/
def pureK (o : Op) : Bool := match o with
  | .move _ => true
  | .assign _ => true
  | .binOp .. => true
  | .extract .. => true
  | .pick .. => true
  | _ => false
def freeU (all : List Oper) (u : Nat) (o : Oper) : Bool := (all.drop (u + 1)).all fun p => p.after.toList.any (fun e => bindsE e && Nat.beq e.on u) || Oper.apart all.toArray o p
noncomputable def pv0 (all : List Oper) (u : Nat) (o : Oper) : Bool := pureK o.op && freeU all u o
noncomputable def lateS (all : List Oper) (mki j : Nat) (l : List Oper) : Nat → Bool :=
  @List.rec Oper (fun _ => Nat → Bool) (fun _ => true) (fun o _ ih u => bif2 (Nat.blt u j) (bif2 (Nat.testBit mki u) (ih (u + 1)) (bif2 (pv0 all u o) (ih (u + 1)) false)) true) l
/-- From where on each stands behind all ahead of it, or what is no matter. -/
noncomputable def split (all : List Oper) (mk : Nat → Nat) (l : List Oper) : Nat → Nat → Nat :=
  @List.rec Oper (fun _ => Nat → Nat → Nat) (fun _ m => m) (fun o _ ih j m => ih (j + 1) (bif2 (Nat.beq (mk j) (Nat.sub (Nat.pow 2 j) 1)) m (bif2 (pv0 all j o) (j + 1) (bif2 (lateS all (mk j) j all 0) m (j + 1))))) l
noncomputable def edgesOk (l : List Oper) : Nat → Bool :=
  @List.rec Oper (fun _ => Nat → Bool) (fun _ => true) (fun o _ ih j => o.after.toList.all (fun e => !bindsE e || Nat.blt e.on j) && ih (j + 1)) l
def dstsOk : List Oper → Bool
  | [] => true
  | o :: l => (match o.dst with | some d => l.all (fun p => !(p.dst == some d)) | none => true) && dstsOk l
abbrev DR := Nat → AV × Mem
noncomputable def memA (M0 : Mem) (big : Nat) (R : DR) (anc j : Nat) : Mem :=
  ⟨M0.next + j * big, M0.next + j * big, fun id => bif2 (Nat.blt id M0.next) (M0.get id) (bif2 (Nat.testBit anc (Nat.div (Nat.sub id M0.next) big)) ((R (Nat.div (Nat.sub id M0.next) big)).2.get id) .dead)⟩
noncomputable def stA (R : DR) (st0 : Tmps) (anc : Nat) (l : List Oper) : Nat → Tmps :=
  @List.rec Oper (fun _ => Nat → Tmps) (fun _ => st0) (fun o _ ih k => putA o.dst (ih (k + 1)) (bif2 (Nat.testBit anc k) (R k).1 .top)) l
namespace T
noncomputable def nopan {α : Type} (x : T α) : T α := @T.rec α (fun _ => T α) (fun a => .ret a) (fun b _ _ t e => .br b t e) (fun _ _ => .fail) (fun b _ t => .ck b t) .fail x
end T
noncomputable def yD (x : AV) (f : Bool → T (AV × Mem)) (none : T (AV × Mem)) : T (AV × Mem) :=
  @AV.casesOn (fun _ => T (AV × Mem)) x (fun _ _ => none) f (fun _ => none) (fun v => .br (isBoolV v) .fail none)
    (fun _ _ _ => none) (fun _ _ _ _ => none) none (fun _ => none) (fun _ _ => none) (fun _ _ => none) (fun _ => none) (fun _ => none) .fail
noncomputable def drawOp (P : Program) (tt : TT) (callF : FuncId → List AV → Mem → T (AV × Mem)) (all : List Oper) (A : Mem) (st : Tmps) (o : Oper) : T (AV × Mem) :=
  @Option.rec (Nat × Bool) (fun _ => T (AV × Mem)) (T.nopan (evOp ⟨P, tt, callF, A, st⟩ o.op)) (fun g =>
    onO (nth? all g.1) fun p => onO p.dst fun d => yD (st d) (fun b => .br (b == g.2) (T.nopan (evOp ⟨P, tt, callF, A, st⟩ o.op)) (.ret (.v undef, A))) (.ret (.v undef, A))) o.guard
noncomputable def isIA (x : AV) : Bool :=
  @AV.casesOn (fun _ => Bool) x (fun _ _ => true) (fun _ => true) (fun _ => true) (fun _ => false) (fun _ _ _ => false) (fun _ _ _ _ => false) false (fun _ => false) (fun _ _ => false) (fun _ _ => false) (fun _ => false) (fun _ => false) false
/-- What is told by slots alone. -/
noncomputable def pureV (st : Tmps) (o : Op) : Bool := match o with
  | .move _ => true
  | .assign _ => true
  | .binOp _ _ x y _ => isIA (evA st x) && isIA (evA st y)
  | .extract .. => true
  | .pick .. => true
  | _ => false
noncomputable def yE {α : Type} (x : AV) (f : Bool → T α) (none : T α) : T α :=
  @AV.casesOn (fun _ => T α) x (fun _ _ => none) f (fun _ => none) (fun v => .br (isBoolV v) .fail none)
    (fun _ _ _ => none) (fun _ _ _ _ => none) none (fun _ => none) (fun _ _ => none) (fun _ _ => none) (fun _ => none) (fun _ => none) .fail
/-- What an operation yields, and whether it is told by slots alone. -/
noncomputable def drawOpF (P : Program) (tt : TT) (callF : FuncId → List AV → Mem → T (AV × Mem)) (all : List Oper) (A : Mem) (st : Tmps) (o : Oper) : T ((AV × Mem) × Bool) :=
  @Option.rec (Nat × Bool) (fun _ => T ((AV × Mem) × Bool)) ((T.nopan (evOp ⟨P, tt, callF, A, st⟩ o.op)).bind fun x => .ret (x, pureV st o.op)) (fun g =>
    onO (nth? all g.1) fun p => onO p.dst fun d => yE (st d) (fun b => .br (b == g.2) ((T.nopan (evOp ⟨P, tt, callF, A, st⟩ o.op)).bind fun x => .ret (x, pureV st o.op)) (.ret ((.v undef, A), true))) (.ret ((.v undef, A), true))) o.guard
/-! Stores to what is there, ahead of others that do not look at those cells. -/
abbrev GS := Nat → Option (Nat × Nat × List AV)
noncomputable def topsL (n : Nat) : List AV := @Nat.rec (fun _ => List AV) [] (fun _ ih => .top :: ih) n
noncomputable def putO (l : List AV) (off : Nat) (o : AObj) : AObj := @AObj.casesOn (fun _ => AObj) o .dead (fun a b c => .ro a b c) (fun e rs cells => .own e rs (setAt l cells off)) (fun a b c => .vec a b c)
noncomputable def topO (tg : List (Nat × Nat × Nat)) (id : Nat) (o : AObj) : AObj := @List.rec (Nat × Nat × Nat) (fun _ => AObj) o (fun t _ ih => bif2 (Nat.beq t.1 id) (putO (topsL t.2.2) t.2.1 ih) ih) tg
noncomputable def topM (tg : List (Nat × Nat × Nat)) (M : Mem) : Mem := @List.casesOn (Nat × Nat × Nat) (fun _ => Mem) tg M (fun _ _ => ⟨M.next, M.lock, fun id => topO tg id (M.get id)⟩)
noncomputable def findD (d : Nat) (l : List Oper) : Option Op := @List.rec Oper (fun _ => Option Op) none (fun o _ ih => @Option.rec Nat (fun _ => Option Op) ih (fun e => bif2 (Nat.beq e d) (some o.op) ih) o.dst) l
noncomputable def fOff (u : Und) (f : Nat) : Nat := @Und.casesOn (fun _ => Nat) u (fun _ => 0) (fun _ _ => 0) (fun fs => @Option.rec (Nat × TypeId × Nat) (fun _ => Nat) 0 (fun x => x.1) (nth? fs f)) 0 0 0 0
noncomputable def shiftP (x : AV) (k : Nat) : AV := match x with
  | .ptr id r c => .ptr id r (c + k)
  | _ => .top
noncomputable def addrT (tt : TT) (st0 : Tmps) (all : List Oper) (fuel : Nat) : Operand → AV :=
  @Nat.rec (fun _ => Operand → AV) (fun _ => .top) (fun _ ih x => match x with
    | .tmp d => @Option.rec Op (fun _ => AV) (st0 d) (fun o => match o with
      | .fieldAddr t y f => shiftP (ih y) (fOff (tt t).u f)
      | .move y => ih y
      | _ => .top) (findD d all)
    | _ => .top) fuel
noncomputable def tgOf (M0 : Mem) (x : AV) (sz : Nat) (rest : List (Nat × Nat × Nat)) : List (Nat × Nat × Nat) := match x with
  | .ptr id r c => match M0.get id with
    | .own _ rs _ => (id, r * rs + c, sz) :: rest
    | _ => rest
  | _ => rest
noncomputable def isStore (o : Oper) : Option (TypeId × Operand × Operand) := match o.op with
  | .store t a x => @Option.rec (Nat × Bool) (fun _ => Option (TypeId × Operand × Operand)) (@Option.rec Nat (fun _ => Option (TypeId × Operand × Operand)) (some (t, a, x)) (fun _ => none) o.dst) (fun _ => none) o.guard
  | _ => none
noncomputable def preT (tt : TT) (M0 : Mem) (st0 : Tmps) (all : List Oper) (l : List Oper) : List (Nat × Nat × Nat) :=
  @List.rec Oper (fun _ => List (Nat × Nat × Nat)) [] (fun o _ ih => @Option.rec (TypeId × Operand × Operand) (fun _ => List (Nat × Nat × Nat)) ih (fun s => tgOf M0 (addrT tt st0 all 5 s.2.1) (tt s.1).size ih) (isStore o)) l
def isTopA : AV → Bool
  | .top => true
  | _ => false
noncomputable def allTop (l : List AV) : Bool := @List.rec AV (fun _ => Bool) true (fun x _ ih => bif2 (isTopA x) ih false) l
noncomputable def noClash (G : GS) (id off sz : Nat) (j : Nat) : Bool := @Nat.rec (fun _ => Bool) true (fun k ih => bif2 (@Option.rec (Nat × Nat × List AV) (fun _ => Bool) true (fun g => bif2 (Nat.beq g.1 id) (bif2 (Nat.ble (off + sz) g.2.1) true (Nat.ble (g.2.1 + g.2.2.length) off)) true) (G k)) ih false) j
noncomputable def fltOk (M0 : Mem) (G : GS) (j id off sz : Nat) (l cells : List AV) : Bool :=
  bif2 (Nat.ble M0.lock id) (bif2 (Nat.blt id M0.next) (bif2 (allLeaf l) (bif2 (Nat.beq l.length sz) (bif2 (Nat.ble (off + sz) cells.length) (bif2 (allTop ((cells.drop off).take sz)) (noClash G id off sz j) false) false) false) false) false) false
noncomputable def fltGo {β : Type} (tt : TT) (M0 : Mem) (st : Tmps) (G : GS) (j : Nat) (t : TypeId) (a x : Operand) (k : Nat × Nat × List AV → T β) : T β :=
  onPtr (evA st a) fun id r c => @AObj.casesOn (fun _ => T β) (M0.get id) .fail (fun _ _ _ => .fail) (fun _ rs cells =>
    .ck (fltOk M0 G j id (r * rs + c) (tt t).size (evA st x).cells cells) (k (id, r * rs + c, (evA st x).cells))) (fun _ _ _ => .fail)
abbrev DG := DR × (Nat → Bool) × GS
noncomputable def drawGo (P : Program) (tt : TT) (callF : FuncId → List AV → Mem → T (AV × Mem)) (all : List Oper) (mk : Nat → Nat) (M0 : Mem) (st0 : Tmps) (big : Nat) (l : List Oper) : Nat → DR → (Nat → Bool) → GS → T DG :=
  @List.rec Oper (fun _ => Nat → DR → (Nat → Bool) → GS → T DG) (fun _ R F G => .ret (R, F, G)) (fun o _ ih j R F G =>
    @Option.rec (TypeId × Operand × Operand) (fun _ => T DG)
      ((drawOpF P tt callF all (memA M0 big R (mk j) j) (stA R st0 (mk j) all 0) o).bind fun x =>
        .ck (Nat.ble x.1.2.next (M0.next + (j + 1) * big)) (ih (j + 1) (upd R j x.1) (upd F j x.2) G))
      (fun s => onK (tt s.1).u
        (fltGo tt M0 (stA R st0 (mk j) all 0) G j s.1 s.2.1 s.2.2 fun g => ih (j + 1) (upd R j (.v undef, memA M0 big R (mk j) j)) (upd F j false) (upd G j (some g)))
        (fltGo tt M0 (stA R st0 (mk j) all 0) G j s.1 s.2.1 s.2.2 fun g => ih (j + 1) (upd R j (.v undef, memA M0 big R (mk j) j)) (upd F j false) (upd G j (some g))))
      (isStore o)) l
noncomputable def anyG (G : GS) (m : Nat) : Bool := @Nat.rec (fun _ => Bool) false (fun k ih => @Option.rec (Nat × Nat × List AV) (fun _ => Bool) ih (fun _ => true) (G k)) m
noncomputable def finO (G : GS) (m id : Nat) (o : AObj) : AObj := @Nat.rec (fun _ => AObj) o (fun k ih => @Option.rec (Nat × Nat × List AV) (fun _ => AObj) ih (fun g => bif2 (Nat.beq g.1 id) (putO g.2.2 g.2.1 ih) ih) (G k)) m
noncomputable def gVals (G : GS) (m : Nat) : List AV := @Nat.rec (fun _ => List AV) [] (fun k ih => @Option.rec (Nat × Nat × List AV) (fun _ => List AV) ih (fun g => ih ++ g.2.2) (G k)) m
noncomputable def drawEnd (P : Program) (tt : TT) (callF : FuncId → List AV → Mem → T (AV × Mem)) (all : List Oper) (M0 : Mem) (st0 : Tmps) (big m : Nat) (R : DR) (G : GS) : T (Tmps × Mem) :=
  compactU M0.next (bif2 (anyG G m) (mapL (fun k => (R k).1) (iota m) ++ gVals G m) (mapL (fun k => (R k).1) (iota m)))
    ⟨M0.next + m * big, M0.lock, bif2 (anyG G m) (fun id => bif2 (Nat.blt id M0.next) (finO G m id (M0.get id)) ((memA M0 big R (Nat.sub (Nat.pow 2 m) 1) 0).get id)) (memA M0 big R (Nat.sub (Nat.pow 2 m) 1) 0).get⟩ fun f M =>
    evOps P tt callF all (all.drop m) (stA (fun k => (f (R k).1, M0)) st0 (Nat.sub (Nat.pow 2 m) 1) (all.take m) 0) (sealM M)
noncomputable def lateV (all : List Oper) (mk : Nat → Nat) (F : Nat → Bool) (m i : Nat) (l : List Oper) : Nat → Bool :=
  @List.rec Oper (fun _ => Nat → Bool) (fun _ => true) (fun o _ ih u => bif2 (Nat.blt u i) (bif2 (Nat.testBit (mk i) u) (ih (u + 1)) (bif2 (Nat.blt u m && (pv0 all u o && F u)) (ih (u + 1)) false)) true) l
noncomputable def lateAll (all : List Oper) (mk : Nat → Nat) (F : Nat → Bool) (m : Nat) (l : List Oper) : Nat → Bool :=
  @List.rec Oper (fun _ => Nat → Bool) (fun _ => true) (fun _ _ ih i => bif2 (lateV all mk F m i all 0) (ih (i + 1)) false) l
def noSel (l : List Oper) : Bool := l.all fun o => match o.op with | .select .. => false | _ => true
noncomputable def masksK {β : Type} (l : List Oper) : Nat → (Nat → Nat) → ((Nat → Nat) → T β) → T β :=
  @List.rec Oper (fun _ => Nat → (Nat → Nat) → ((Nat → Nat) → T β) → T β) (fun _ mk k => k mk) (fun o _ ih j mk k => forceN (ancOf mk o.after.toList) fun m => ih (j + 1) (upd mk j m) k) l
noncomputable def evDraw (P : Program) (tt : TT) (callF : FuncId → List AV → Mem → T (AV × Mem)) (big : Nat) (all : List Oper) (st0 : Tmps) (M0 : Mem) : T (Tmps × Mem) :=
  .ck (edgesOk all 0 && (dstsOk all && (Nat.blt 0 big && noSel all))) (masksK all 0 (fun _ => 0) fun mk => forceN (split all mk all 0 0) fun m => (drawGo P tt callF all mk (topM (preT tt M0 st0 all (all.take m)) M0) st0 big (all.take m) 0 (fun _ => (.top, M0)) (fun _ => false) (fun _ => none)).bind
    fun R => .ck (Nat.ble m all.length && lateAll all mk R.2.1 m (all.drop m) m) (drawEnd P tt callF all (topM (preT tt M0 st0 all (all.take m)) M0) st0 big m R.1 R.2.2))

/-- The slots that live at loops' heads; whether what is reckoned is reckoned at once (it changes no answer). -/
structure Keep where
  l : List Nat
  z : Bool
/-- What lives at a loop's head. -/
noncomputable def keepOnly (keep : List Nat) (st : Tmps) : Tmps :=
  @List.rec Nat (fun _ => Tmps) (fun _ => .top) (fun t _ ih => putA (some t) ih (st t)) keep

noncomputable def keepF {R : Type} (keep : List Nat) (st : Tmps) (k : Tmps → R) : R :=
  @List.rec Nat (fun _ => (Tmps → R) → R) (fun k => k (fun _ => .top)) (fun t _ ih k => forceA (st t) fun v => ih fun acc => k (putA (some t) acc v)) keep k
noncomputable def cst (l : List Nat) : List AV → Tmps := @List.rec Nat (fun _ => List AV → Tmps) (fun _ _ => .top) (fun t _ ih vs => @List.casesOn AV (fun _ => Tmps) vs (fun _ => .top) (fun v vs => putA (some t) (ih vs) v)) l
/-- At a loop's head: what lives, the new objects under new numbers. -/
noncomputable def headF (base : Nat) (roots : List AV) (keep : Keep) (st : Tmps) (M : Mem) (k : Tmps → Mem → T (X × Tmps × Mem)) : T (X × Tmps × Mem) :=
  bif2 keep.z (keepF keep.l st fun st => compact base (roots ++ mapL st keep.l) M fun f M => keepF keep.l (fun t => f (st t)) fun st => k st M)
    (compactU base (roots ++ mapL (keepOnly keep.l st) keep.l) M fun f M => k (cst keep.l (mapL (fun t => f (keepOnly keep.l st t)) keep.l)) (sealM M))

abbrev Res := X × Tmps × Mem
/-- A slot that was asked. -/
noncomputable def setB (c : Operand) (b : Bool) (st : Tmps) : Tmps := @Operand.casesOn (fun _ => Tmps) c (fun t => putA (some t) st (.b b)) (fun _ => st) (fun _ => st) (fun _ => st)
noncomputable def onX (x : Res) (n : Tmps → Mem → T Res) (e : Nat → T Res) : T Res :=
  @X.casesOn (fun _ => T Res) x.1 (n x.2.1 x.2.2) e (.ret (.ret, x.2))
/-- 'keep': the slots that live at loops' heads; 'L': rounds. -/
noncomputable def evCode (P : Program) (tt : TT) (callF : FuncId → List AV → Mem → T (AV × Mem)) (roots : List AV) (keep : Keep) (L big : Nat) (c : Code) : Tmps → Mem → T Res :=
  @Code.rec (fun _ => Tmps → Mem → T Res)
    (fun st M => .ret (.normal, st, M))                    -- skip
    (fun _ ops draw st M => bif2 draw ((evDraw P tt callF big ops.toList st M).bind fun x => .ret (.normal, x.1, x.2)) ((evOps P tt callF ops.toList ops.toList st M).bind fun x => .ret (.normal, x.1, x.2)))
    (fun _ _ iha ihb st M => (iha st M).bind fun x => onX x ihb fun j => .ret (.exit j, x.2))
    (fun c _ _ iht ihe st M => onB (evA st c) fun b => .br b (iht (setB c true st) M) (ihe (setB c false st) M))
    (fun id _ ih st M => (ih st M).bind fun x => onX x (fun st M => .ret (.normal, st, M)) fun j => bif2 (Nat.beq j id) (.ret (.normal, x.2)) (.ret (.exit j, x.2)))
    (fun _ ih st M => forceN M.next fun base => @Nat.rec (fun _ => Tmps → Mem → T Res) (fun _ _ => .fail) (fun _ again st M => headF base roots keep st M fun st M => (ih st M).bind fun x => onX x again fun j => .ret (.exit j, x.2)) L st M)
    (fun _ _ _ _ _ _ _ _ => .fail)
    (fun id st M => .ret (.exit id, st, M))
    (fun _ _ _ _ => .fail)
    (fun _ _ _ => .fail)
    (fun _ _ _ => .fail)
    (fun st M => .ret (.ret, st, M))
    (fun _ _ _ => .fail)
    c

noncomputable def evRes (tt : TT) (st : Tmps) (l : List ResultVar) : Mem → T (List AV × Mem) :=
  @List.rec ResultVar (fun _ => Mem → T (List AV × Mem)) (fun M => .ret ([], M)) (fun r _ ih M =>
    (@ResultVar.casesOn (fun _ => T (AV × Mem)) r (fun t => .ret (st t, M)) (fun a t => evLoad (tt t) M (st a))).bind fun x => (ih x.2).bind fun y => .ret (x.1 :: y.1, y.2)) l
noncomputable def single (x : List AV × Mem) : AV × Mem := (@List.casesOn AV (fun _ => AV) x.1 (.tup []) (fun a l => @List.casesOn AV (fun _ => AV) l a (fun b l => .tup (a :: b :: l))), x.2)
noncomputable def argTmps (l : List AV) : Nat → Tmps := @List.rec AV (fun _ => Nat → Tmps) (fun _ _ => .top) (fun x _ ih i => putA (some i) (ih (i + 1)) x) l

structure FI where
  n : Nat
  code : Code
  res : List ResultVar
  keep : Keep
/-- The results, the new objects under new numbers. -/
noncomputable def shutF (z : Bool) (base : Nat) (roots : List AV) (y : List AV × Mem) : T (AV × Mem) :=
  bif2 z (compact base (roots ++ y.1) y.2 fun f M => forceL (mapL f y.1) fun l => .ret (single (l, M))) (compactU base (roots ++ y.1) y.2 fun f M => .ret (single (mapL f y.1, M)))
noncomputable def evEnd (base : Nat) (roots : List AV) (tt : TT) (fi : FI) (x : Res) : T (AV × Mem) :=
  @X.casesOn (fun _ => T (AV × Mem)) x.1 ((evRes tt x.2.1 fi.res x.2.2).bind (shutF fi.keep.z base roots)) (fun _ => .fail) ((evRes tt x.2.1 fi.res x.2.2).bind (shutF fi.keep.z base roots))
noncomputable def evBody (P : Program) (tt : TT) (L big : Nat) (callF : FuncId → List AV → Mem → T (AV × Mem)) (fi : FI) (args : List AV) (M : Mem) : T (AV × Mem) :=
  .br (Nat.ble args.length fi.n) (forceN M.next fun base => (evCode P tt callF args fi.keep L big fi.code (argTmps args 0) M).bind (evEnd base args tt fi)) .fail
/-- A function is told by its code, or by a contract. -/
noncomputable def evFun (P : Program) (tt : TT) (S : Nat → Option (List AV → Mem → T (AV × Mem))) (F : Nat → Option FI) (L : Nat) (d : Nat) : FuncId → List AV → Mem → T (AV × Mem) :=
  @Nat.rec (fun _ => FuncId → List AV → Mem → T (AV × Mem)) (fun _ _ _ => .fail) (fun d ih f args M =>
    @Option.rec (List AV → Mem → T (AV × Mem)) (fun _ => T (AV × Mem)) (onO (F f) fun fi => evBody P tt L (Nat.pow 2 (Nat.mul 32 d)) ih fi args M) (fun s => s args M) (S f)) d
end Go.Eng
