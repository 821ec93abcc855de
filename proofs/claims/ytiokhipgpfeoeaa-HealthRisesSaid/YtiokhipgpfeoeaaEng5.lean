/- An evaluator of the code of the model, and lemmas of its proof of soundness: what it tells of a call, the call does; no condition but those that each lemma names. -/
import Derived.Test.YtiokhipgpfeoeaaEng4
set_option linter.all false
set_option linter.deprecated false
set_option autoImplicit false
namespace Go.Eng
open Go Go.RowKit

/-! ## New variables -/
theorem allLeaf_ok {l : List AV} (h : allLeaf l = true) : ∀ x ∈ l, leafA x = true := by
  induction l with
  | nil => intro x hx; cases hx
  | cons a l ih =>
    have h' : (@Bool.rec (fun _ => Bool) false (allLeaf l) (leafA a)) = true := h
    intro x hx
    cases ha : leafA a with
    | false => rw [ha] at h'; cases h'
    | true =>
      rw [ha] at h'
      rcases List.mem_cons.1 hx with rfl | hx
      · exact ha
      · exact ih h' x hx

theorem newOwn_ok {P : Program} {N : Nat} {φ : Phi} {M : Mem} {w : World} (hr : Rep N φ M w) {e : TypeId} {rs : Nat} {l : List AV} {zs : Array Value} (hz : AVsRel φ l zs.toList)
    {Q : AV × Mem → Prop} {Qp : AV → Mem → Prop} (h : (newOwn M e rs l).holds Q Qp) :
    ∃ z w', (do pure (Value.pointer (some (← newRow e zs))) : Sem Value).run P w = .ok z w' ∧ Good N φ M w Q z w' := by
  obtain ⟨h1, h2⟩ := h
  cases hc : allLeaf l && Nat.beq l.length rs with
  | false => exact (h2 hc).elim
  | true =>
    have hq : Q (.ptr M.next 0 0, M.new (.own e rs l)) := h1 hc
    obtain ⟨_, hl⟩ := Bool.and_eq_true_iff.1 hc
    have hl : l.length = rs := Nat.eq_of_beq_eq_true hl
    have hsz : zs.size = rs := by rw [← hl, hz.length, Array.length_toList]
    have key := hr.newOwn (.own e rs l) (.cells zs e) ⟨w.heap.size, 0, rs, 1, none⟩ rfl (by
      refine ⟨_, updP_self .., ⟨rfl, rfl⟩, rfl, ⟨zs, _, alloc_new _ _, by simp [hsz], .inl rfl⟩, by simp [hl], fun j a ha => ?_⟩
      obtain ⟨y, hy, hrel⟩ := hz.get j a ha
      refine ⟨y, ?_, hrel.mono (updP_le _ (hr.fresh _ (Nat.le_refl _)).2)⟩
      show (w.alloc (.cells zs e)).cell? ⟨w.heap.size, j, none⟩ = some y
      simp only [World.cell?, alloc_new]
      simpa using hy)
    refine ⟨.pointer (some ⟨w.heap.size, 0, none⟩), w.alloc (.cells zs e), by simp [newRow, newObj, Sem.run], _, _, _, hq, ?_, key.1, key.2⟩
    have := AVRel.ptr (φ := updP φ M.next (some ⟨w.heap.size, 0, rs, 1, none⟩)) M.next 0 0 _ (updP_self ..) rfl
    simpa [Pl.at] using this

/-! ## What is reckoned without memory -/
theorem pureOf_run {α : Type} {P : Program} {s : Sem α} {a : α} (h : pureOf P s = some a) (w : World) : s.run P w = .ok a w := by
  induction s with
  | pure b => simp [pureOf] at h; subst h; rfl
  | program k ih => exact ih P (by simpa [pureOf] using h)
  | mark m k ih => exact ih (by simpa [pureOf] using h)
  | _ => simp [pureOf] at h

theorem wrapS_eq (k : IntKind) (m h n : Int) (hm : m = 2 ^ k.bits) (hh : h = 2 ^ (k.bits - 1)) (hs : k.signed = true) : wrapS m h n = k.wrap n := by
  unfold wrapS IntKind.wrap
  subst hm hh
  simp only [hs, Bool.true_and]
  by_cases c : (2 ^ (k.bits - 1) : Int) ≤ n % 2 ^ k.bits
  · simp [c]
  · simp [c]
theorem wr_eq (k : IntKind) (n : Int) : wr k n = k.wrap n := by
  cases k
  · exact wrapS_eq .i8 _ _ n rfl rfl rfl
  · exact wrapS_eq .i16 _ _ n rfl rfl rfl
  · exact wrapS_eq .i32 _ _ n rfl rfl rfl
  · exact wrapS_eq .i64 _ _ n rfl rfl rfl
  · simp [wr, IntKind.wrap, IntKind.signed, IntKind.bits]
  · simp [wr, IntKind.wrap, IntKind.signed, IntKind.bits]
  · simp [wr, IntKind.wrap, IntKind.signed, IntKind.bits]
  · simp [wr, IntKind.wrap, IntKind.signed, IntKind.bits]

/-- A value that is reckoned. -/
def Val (P : Program) (φ : Phi) (w : World) (Q : AV → Prop) (s : Sem Value) : Prop := ∃ z x, s.run P w = .ok z w ∧ Q x ∧ AVRel φ x z
theorem ck_ok {α : Type} {b : Bool} {t : T α} {Q : α → Prop} {Qp : AV → Mem → Prop} (h : (T.ck b t).holds Q Qp) : b = true ∧ t.holds Q Qp := h
theorem br_ok {α : Type} {b : Bool} {t : T α} {Q : α → Prop} {Qp : AV → Mem → Prop} (h : (T.br b t .fail).holds Q Qp) : b = true ∧ t.holds Q Qp := by
  obtain ⟨h1, h2⟩ := h
  cases b with
  | false => exact (h2 rfl).elim
  | true => exact ⟨rfl, h1 rfl⟩
theorem brn_ok {α : Type} {b : Bool} {t : T α} {Q : α → Prop} {Qp : AV → Mem → Prop} (h : (T.br b .fail t).holds Q Qp) : b = false ∧ t.holds Q Qp := by
  obtain ⟨h1, h2⟩ := h
  cases b with
  | true => exact (h1 rfl).elim
  | false => exact ⟨rfl, h2 rfl⟩
theorem Val.int {P : Program} {φ : Phi} {w : World} {Q : AV → Prop} {s : Sem Value} {k : IntKind} {n : Int} {Qp : AV → Mem → Prop} (h : (iRet k n).holds Q Qp) (hs : s = pure (.int k (k.wrap n))) : Val P φ w Q s := by
  subst hs
  have h : Q (.i k (wr k n)) := h
  rw [wr_eq] at h
  exact ⟨_, _, rfl, h, .i _ _⟩
theorem binI_ok {P : Program} {φ : Phi} {w : World} {op : BinOp} {t : TypeId} {k k' : IntKind} {a b : Int} (hk : isSh op = false → k = k') {Q : AV → Prop} {Qp : AV → Mem → Prop} (h : (binI op k a b).holds Q Qp) :
    Val P φ w Q (binOp op t (.int k a) (.int k' b)) := by
  cases op with
  | shl =>
    obtain ⟨h1, h2⟩ := brn_ok (show (bShl k a b).holds Q Qp from h)
    refine Val.int h2 ?_
    simp only [decide_eq_false_iff_not] at h1
    simp [binOp, Op.shift, h1]
  | shr =>
    obtain ⟨h1, h2⟩ := brn_ok (show (bShr k a b).holds Q Qp from h)
    simp only [decide_eq_false_iff_not] at h1
    exact ⟨_, _, by simp [binOp, Op.shift, h1], h2, .i _ _⟩
  | quo =>
    obtain rfl := hk rfl
    obtain ⟨h1, h2⟩ := brn_ok (show (bQuo k a b).holds Q Qp from h)
    refine Val.int h2 ?_
    have h1 : ¬ b = 0 := by simpa using h1
    simp [binOp, Op.intDiv, h1]
  | rem =>
    obtain rfl := hk rfl
    obtain ⟨h1, h2⟩ := brn_ok (show (bRem k a b).holds Q Qp from h)
    have h1 : ¬ b = 0 := by simpa using h1
    exact ⟨_, _, by simp [binOp, Op.intDiv, h1], h2, .i _ _⟩
  | add => obtain rfl := hk rfl; exact Val.int (show (bAdd k a b).holds Q Qp from h) (by simp [binOp, Op.intArith])
  | sub => obtain rfl := hk rfl; exact Val.int (show (bSub k a b).holds Q Qp from h) (by simp [binOp, Op.intArith])
  | mul => obtain rfl := hk rfl; exact Val.int (show (bMul k a b).holds Q Qp from h) (by simp [binOp, Op.intArith])
  | and => obtain rfl := hk rfl; exact Val.int (show (bAnd k a b).holds Q Qp from h) (by simp [binOp, Op.intBits])
  | or => obtain rfl := hk rfl; exact Val.int (show (bOr k a b).holds Q Qp from h) (by simp [binOp, Op.intBits])
  | xor => obtain rfl := hk rfl; exact Val.int (show (bXor k a b).holds Q Qp from h) (by simp [binOp, Op.intBits])
  | andNot => obtain rfl := hk rfl; exact Val.int (show (bAndNot k a b).holds Q Qp from h) (by simp [binOp, Op.intBits])
  | eql => obtain rfl := hk rfl; exact ⟨_, _, by simp [binOp, Op.intCmp], h, .b _⟩
  | neq => obtain rfl := hk rfl; exact ⟨_, _, by simp [binOp, Op.intCmp], h, .b _⟩
  | lss => obtain rfl := hk rfl; exact ⟨_, _, by simp [binOp, Op.intCmp], h, .b _⟩
  | leq => obtain rfl := hk rfl; exact ⟨_, _, by simp [binOp, Op.intCmp], h, .b _⟩
  | gtr => obtain rfl := hk rfl; exact ⟨_, _, by simp [binOp, Op.intCmp], h, .b _⟩
  | geq => obtain rfl := hk rfl; exact ⟨_, _, by simp [binOp, Op.intCmp], h, .b _⟩
theorem binS_ok {P : Program} {φ : Phi} {w : World} {op : BinOp} {t : TypeId} {a b : ByteArray} {Q : AV → Prop} {Qp : AV → Mem → Prop} (h : (binS op a b).holds Q Qp) :
    Val P φ w Q (binOp op t (.string a) (.string b)) := by
  cases op with
  | add =>
    obtain ⟨h1, h2⟩ := br_ok (show (sAdd a b).holds Q Qp from h)
    have h1 : a.size + b.size ≤ 9223372036854775807 := Nat.le_of_ble_eq_true h1
    refine ⟨_, _, ?_, h2, .s _⟩
    have : ¬ (((a.size + b.size : Nat) : Int) > IntKind.i64.max) := by
      have e : IntKind.i64.max = 9223372036854775807 := rfl
      rw [e]; omega
    simp only [binOp, Op.stringOp, if_neg this]
    rfl
  | eql => exact ⟨_, _, rfl, h, .b _⟩
  | neq => exact ⟨_, _, rfl, h, .b _⟩
  | lss => exact ⟨_, _, rfl, h, .b _⟩
  | leq => exact ⟨_, _, rfl, h, .b _⟩
  | gtr => exact ⟨_, _, rfl, h, .b _⟩
  | geq => exact ⟨_, _, rfl, h, .b _⟩
  | _ => exact h.elim

theorem Val.eq {P : Program} {φ : Phi} {w : World} {Q : AV → Prop} {s s' : Sem Value} (h : Val P φ w Q s) (e : s'.run P w = s.run P w) : Val P φ w Q s' := by
  obtain ⟨z, x, h1, h2, h3⟩ := h
  exact ⟨z, x, e.trans h1, h2, h3⟩
theorem onI_ok {β : Type} {x : AV} {f : IntKind → Int → T β} {Q : β → Prop} {Qp : AV → Mem → Prop} (h : (onI x f).holds Q Qp) : ∃ k n, x = .i k n ∧ (f k n).holds Q Qp := by
  cases x <;> first | exact h.elim | exact ⟨_, _, rfl, h⟩
theorem onB_ok {β : Type} {x : AV} {f : Bool → T β} {Q : β → Prop} {Qp : AV → Mem → Prop} (h : (onB x f).holds Q Qp) : ∃ n, x = .b n ∧ (f n).holds Q Qp := by
  cases x <;> first | exact h.elim | exact ⟨_, rfl, h⟩
theorem onS_ok {β : Type} {x : AV} {f : ByteArray → T β} {Q : β → Prop} {Qp : AV → Mem → Prop} (h : (onS x f).holds Q Qp) : ∃ n, x = .s n ∧ (f n).holds Q Qp := by
  cases x <;> first | exact h.elim | exact ⟨_, rfl, h⟩
theorem onV_ok {β : Type} {x : AV} {f : Value → T β} {Q : β → Prop} {Qp : AV → Mem → Prop} (h : (onV x f).holds Q Qp) : ∃ n, x = .v n ∧ (f n).holds Q Qp := by
  cases x <;> first | exact h.elim | exact ⟨_, rfl, h⟩
theorem onPtr_ok {β : Type} {x : AV} {f : Nat → Nat → Nat → T β} {Q : β → Prop} {Qp : AV → Mem → Prop} (h : (onPtr x f).holds Q Qp) : ∃ a b c, x = .ptr a b c ∧ (f a b c).holds Q Qp := by
  cases x <;> first | exact h.elim | exact ⟨_, _, _, rfl, h⟩
theorem onSl_ok {β : Type} {x : AV} {f : Nat → Nat → Nat → Option Nat → T β} {Q : β → Prop} {Qp : AV → Mem → Prop} (h : (onSl x f).holds Q Qp) : ∃ a b c d, x = .sl a b c d ∧ (f a b c d).holds Q Qp := by
  cases x <;> first | exact h.elim | exact ⟨_, _, _, _, rfl, h⟩
theorem onFn_ok {β : Type} {x : AV} {f : Fn → List AV → T β} {Q : β → Prop} {Qp : AV → Mem → Prop} (h : (onFn x f).holds Q Qp) : ∃ a b, x = .fn a b ∧ (f a b).holds Q Qp := by
  cases x <;> first | exact h.elim | exact ⟨_, _, rfl, h⟩
theorem onAgg_ok {β : Type} {x : AV} {f : List AV → T β} {Q : β → Prop} {Qp : AV → Mem → Prop} (h : (onAgg x f).holds Q Qp) : ∃ a, x = .agg a ∧ (f a).holds Q Qp := by
  cases x <;> first | exact h.elim | exact ⟨_, rfl, h⟩
theorem onTup_ok {β : Type} {x : AV} {f : List AV → T β} {Q : β → Prop} {Qp : AV → Mem → Prop} (h : (onTup x f).holds Q Qp) : ∃ a, x = .tup a ∧ (f a).holds Q Qp := by
  cases x <;> first | exact h.elim | exact ⟨_, rfl, h⟩

theorem Val.pure1 {P : Program} {φ : Phi} {w : World} {Q : AV → Prop} {s : Sem Value} {Qp : AV → Mem → Prop} (h : (onO (pureOf P s) fun v => .ret (lift1 v)).holds Q Qp) : Val P φ w Q s := by
  obtain ⟨a, ha, hq⟩ := onO_ok h
  exact ⟨a, _, pureOf_run ha w, hq, lift1_rel φ a⟩

theorem eqGuard_int {P : Program} {w : World} {op : BinOp} {t : TypeId} {x y : Operand} {k k' : IntKind} {a b : Int} : (eqGuard op t x y (.int k a) (.int k' b)).run P w = .ok () w := by cases op <;> rfl
theorem eqGuard_bool {P : Program} {w : World} {op : BinOp} {t : TypeId} {x y : Operand} {a b : Bool} : (eqGuard op t x y (.bool a) (.bool b)).run P w = .ok () w := by cases op <;> rfl
theorem eqGuard_str {P : Program} {w : World} {op : BinOp} {t : TypeId} {x y : Operand} {a b : ByteArray} : (eqGuard op t x y (.string a) (.string b)).run P w = .ok () w := by cases op <;> rfl
theorem equalIn_bool {P : Program} {w : World} {t : TypeId} (h : P.underlying t = some .bool) (d : Nat) (a b : Bool) : (Op.equalIn (d + 1) t (.bool a) (.bool b)).run P w = .ok (a == b) w := by
  simp [Op.equalIn, run_underlying h]
theorem equal_bool {P : Program} {w : World} {t : TypeId} (h : P.underlying t = some .bool) (a b : Bool) : (Op.equal t (.bool a) (.bool b)).run P w = .ok (a == b) w := equalIn_bool h 9999 a b

theorem binV_ok {P : Program} {φ : Phi} {w : World} {op : BinOp} {t : TypeId} {x y : Operand} {a b : Value} {Q : AV → Prop} {Qp : AV → Mem → Prop} (h : (binV P op t x y a b).holds Q Qp) : Val P φ w Q (do eqGuard op t x y a b; binOp op t a b) := by
  unfold binV at h
  split at h
  · rename_i k n k' m
    cases ha : isAr op with
    | false => rw [ha] at h; exact Val.pure1 h
    | true =>
      rw [ha] at h
      obtain ⟨hk, h2⟩ := br_ok (show (T.br (decide (k = k')) (binF op k n m) .fail).holds Q Qp from h)
      clear h
      have hk := of_decide_eq_true hk
      subst hk
      unfold binF at h2
      obtain ⟨hs, h⟩ := br_ok h2
      obtain ⟨r, hr⟩ := Option.isSome_iff_exists.1 hs
      rw [hr] at h
      refine ⟨_, _, ?_, h, .v _⟩
      have e : (eqGuard op t x y (.float k n) (.float k m)).run P w = .ok () w := by cases op <;> first | rfl | cases ha
      simp only [Sem.run_bind, e, Result.andThen_ok]
      exact run_float_arith w op t k n m r hr
  · exact Val.pure1 h
theorem binA_ok {P : Program} {tt : TT} (tok : TTok P tt) {φ : Phi} {w : World} {op : BinOp} {t : TypeId} (ht : (tt t).u ≠ .bad) {x y : Operand} {a b : AV} {u v : Value} (hu : AVRel φ a u) (hv : AVRel φ b v)
    {Q : AV → Prop} {Qp : AV → Mem → Prop} (h : (binA P (tt t).kind op t x y a b).holds Q Qp) : Val P φ w Q (do eqGuard op t x y u v; binOp op t u v) := by
  cases hu with
  | i k n =>
    obtain ⟨k', n', rfl, hh⟩ := onI_ok (show (onI b fun k' b => bif2 (isSh op) (binI op k n b) (.br (decide (k = k')) (binI op k n b) .fail)).holds Q Qp from h)
    cases hv
    refine Val.eq (binI_ok (op := op) (t := t) (k := k) (k' := k') (a := n) (b := n') (Qp := Qp) ?_ ?_) (by simp only [Sem.run_bind, eqGuard_int, Result.andThen_ok])
    · intro hs
      rw [hs] at hh
      exact of_decide_eq_true (br_ok (show (T.br (decide (k = k')) (binI op k n n') .fail).holds Q Qp from hh)).1
    · cases hs : isSh op with
      | true => rw [hs] at hh; exact hh
      | false => rw [hs] at hh; exact (br_ok (show (T.br (decide (k = k')) (binI op k n n') .fail).holds Q Qp from hh)).2
  | b n =>
    obtain ⟨n', rfl, hh⟩ := onB_ok (show (onB b (binB (tt t).kind op n)).holds Q Qp from h)
    cases hv
    have hk := (tok t ht).kind
    cases hc : (tt t).kind with
    | bool =>
      rw [hc] at hk hh
      have hh : (binB1 op n n').holds Q Qp := hh
      have hk : P.underlying t = some .bool := hk
      cases op with
      | eql => exact ⟨_, _, by simp only [Sem.run_bind, eqGuard_bool, Result.andThen_ok, binOp, equal_bool hk]; rfl, hh, .b _⟩
      | neq => exact ⟨_, _, by simp only [Sem.run_bind, eqGuard_bool, Result.andThen_ok, binOp, equal_bool hk]; rfl, hh, .b _⟩
      | _ => exact hh.elim
    | _ => rw [hc] at hh; exact hh.elim
  | s n =>
    obtain ⟨n', rfl, hh⟩ := onS_ok (show (onS b (binS op n)).holds Q Qp from h)
    cases hv
    exact Val.eq (binS_ok (t := t) hh) (by simp only [Sem.run_bind, eqGuard_str, Result.andThen_ok])
  | v =>
    obtain ⟨n', rfl, hh⟩ := onV_ok (show (onV b (binV P op t x y u)).holds Q Qp from h)
    cases hv
    exact binV_ok hh
  | _ => exact h.elim

theorem unA_ok {P : Program} {φ : Phi} {w : World} {op : UnOp} {a : AV} {u : Value} (hu : AVRel φ a u) {Q : AV → Prop} {Qp : AV → Mem → Prop} (h : (unA P op a).holds Q Qp) : Val P φ w Q (Op.unary op u) := by
  cases hu with
  | i k n =>
    cases op with
    | neg => exact Val.int (show (iRet k (0 - n)).holds Q Qp from h) (by simp [Op.unary, Op.intArith])
    | xor => exact Val.int (show (iRet k (BitVec.ofInt k.bits (bif k.signed then -1 else k.max) ^^^ BitVec.ofInt k.bits n).toNat).holds Q Qp from h) (by simp [Op.unary, Op.intBits, cond_eq_ite])
    | _ => exact h.elim
  | b n =>
    cases op with
    | not => exact ⟨_, _, rfl, h, .b _⟩
    | _ => exact h.elim
  | v => exact Val.pure1 h
  | _ => exact h.elim

theorem convA_ok {P : Program} {tt : TT} (tok : TTok P tt) {φ : Phi} {w : World} {s d : TypeId} (hd : (tt d).u ≠ .bad) (hs : ∃ e, P.underlying s = some e) {a : AV} {u : Value} (hu : AVRel φ a u) {Q : AV → Prop} {Qp : AV → Mem → Prop}
    (h : (convA P (tt d) s d a).holds Q Qp) : Val P φ w Q (convert s d u) := by
  obtain ⟨e, he⟩ := hs
  cases hu with
  | i k n =>
    have hk := (tok d hd).kind
    have h : (cvI P (tt d) s d k n).holds Q Qp := h
    unfold cvI at h
    cases hc : (tt d).kind with
    | int k' =>
      rw [hc] at h hk
      have hk : P.underlying d = some (.int k') := hk
      have h : (iRet k' n).holds Q Qp := h
      refine Val.eq (Val.int h rfl) ?_
      simp [convert, run_underlying he, run_underlying hk, Conv.intToInt]
    | flt => rw [hc] at h; exact Val.pure1 h
    | _ => rw [hc] at h; exact h.elim
  | s x => exact Val.pure1 h
  | v => exact Val.pure1 h
  | _ => exact h.elim

/-! ## Operations one by one -/
def GoodP (N : Nat) (φ : Phi) (M : Mem) (w : World) (Qp : AV → Mem → Prop) (v : Value) (w' : World) : Prop :=
  ∃ φ' x M', Qp x M' ∧ AVRel φ' x v ∧ Rep N φ' M' w' ∧ Ext φ M w φ' M' w'
/-- How an operation ends. -/
def Out (P : Program) (N : Nat) (φ : Phi) (M : Mem) (w : World) (Q : AV × Mem → Prop) (Qp : AV → Mem → Prop) (s : Sem Next) : Prop :=
  (∃ v w', (s.run P w = .ok (.value v) w' ∨ (s.run P w = .ok .skip w' ∧ v = undef)) ∧ Good N φ M w Q v w') ∨
  (∃ v w', s.run P w = .halt (.panic v) w' ∧ GoodP N φ M w Qp v w') ∨
  (∃ f args w', s.run P w = .ok (.enter f args) w' ∧ Calls P f args w' fun e w'' => (∃ v, e = .returned v ∧ Good N φ M w Q v w'') ∨ (∃ v, e = .panicked [{ v, recovered := false }] ∧ GoodP N φ M w Qp v w''))
def TmpsRel (φ : Phi) (st : Tmps) (tmps : Array Value) : Prop := ∀ t, AVRel φ (st t) (tmps.getD t undef)
theorem evA_rel {φ : Phi} {st : Tmps} {a : Act} (h : TmpsRel φ st a.tmps) (x : Operand) : AVRel φ (evA st x) (a.eval x) := by
  cases x with
  | tmp t => exact h t
  | const v => exact lift_rel φ v
  | global g => exact .v _
  | func f => exact .fn _ _ _ .nil

theorem Out.val {P : Program} {N : Nat} {φ : Phi} {M : Mem} {w : World} {Q : AV × Mem → Prop} {Qp : AV → Mem → Prop} {s : Sem Value} {z : Value} {w' : World} (h : s.run P w = .ok z w') (hg : Good N φ M w Q z w') :
    Out P N φ M w Q Qp (do pure (.value (← s))) := .inl ⟨z, w', .inl (by simp [h]), hg⟩
theorem Out.ofVal {P : Program} {N : Nat} {φ : Phi} {M : Mem} {w : World} (hr : Rep N φ M w) {Q : AV × Mem → Prop} {Qp : AV → Mem → Prop} {s : Sem Value} (h : Val P φ w (fun x => Q (x, M)) s) :
    Out P N φ M w Q Qp (do pure (.value (← s))) := by
  obtain ⟨z, x, h1, h2, h3⟩ := h
  exact .val h1 (.here hr h2 h3)
theorem retM_ok {M : Mem} {x : T AV} {Q : AV × Mem → Prop} {Qp : AV → Mem → Prop} (h : (retM M x).holds Q Qp) : x.holds (fun v => Q (v, M)) Qp := by
  unfold retM at h; rw [T.holds_bind] at h; exact h

theorem idx_ok {φ : Phi} {k : IntKind} {i : Int} {u : Value} (h : AVRel φ (.i k i) u) : u = .int k i := by cases h; rfl

theorem rsIs_ok {N : Nat} {φ : Phi} {M : Mem} {w : World} (hr : Rep N φ M w) {id n : Nat} {t : T (AV × Mem)} {Q : AV × Mem → Prop} {Qp : AV → Mem → Prop} (h : (rsIs M id n t).holds Q Qp) :
    t.holds Q Qp ∧ ∀ p, φ id = some (some p) → p.rs = n := by
  have ho := hr.objs id
  unfold rsIs at h
  cases hg : M.get id with
  | dead => rw [hg] at h; exact h.elim
  | ro nil n' cols =>
    rw [hg] at h ho
    obtain ⟨h1, h2⟩ := br_ok (show (T.br (Nat.beq cols.length n) t .fail).holds Q Qp from h)
    refine ⟨h2, fun p hp => ?_⟩
    obtain ⟨_, x, hx, _, _, hc⟩ := ho
    rw [hp] at hx; cases hx
    rw [(hc p rfl).1]; exact Nat.eq_of_beq_eq_true h1
  | own e rs cells =>
    rw [hg] at h ho
    obtain ⟨h1, h2⟩ := br_ok (show (T.br (Nat.beq rs n) t .fail).holds Q Qp from h)
    refine ⟨h2, fun p hp => ?_⟩
    obtain ⟨q, hq, _, h3, _⟩ := ho
    rw [hp] at hq; cases hq
    rw [h3]; exact Nat.eq_of_beq_eq_true h1
  | vec e n' cols =>
    rw [hg] at h ho
    obtain ⟨h1, h2⟩ := br_ok (show (T.br (Nat.beq cols.length n) t .fail).holds Q Qp from h)
    refine ⟨h2, fun p hp => ?_⟩
    obtain ⟨_, q, hq, _, h3, _⟩ := ho
    rw [hp] at hq; cases hq
    rw [h3]; exact Nat.eq_of_beq_eq_true h1

theorem evIndexAddr_ok {P : Program} {tt : TT} (tok : TTok P tt) {N : Nat} {φ : Phi} {M : Mem} {w : World} (hr : Rep N φ M w) {t : TypeId} {x ix : AV} {y iy : Value} (hx : AVRel φ x y) (hi : AVRel φ ix iy)
    {Q : AV × Mem → Prop} {Qp : AV → Mem → Prop} (h : (evIndexAddr tt (tt t).u M x ix).holds Q Qp) : ∃ z, (Instr.indexAt t y iy).run P w = .ok z w ∧ Good N φ M w Q z w := by
  obtain ⟨k, i, rfl, h⟩ := onI_ok h
  obtain rfl := idx_ok hi
  cases hu : (tt t).u with
  | sl el =>
    rw [hu] at h
    obtain ⟨id, r, n, cap, rfl, h⟩ := onSl_ok (show (onSl x fun id r n _ => onK (tt el).u (rsIs M id (tt el).size (idxSl M i id r n)) (rsIs M id (tt el).size (idxSl M i id r n))).holds Q Qp from h)
    have ti := (tok t (by rw [hu]; simp)).und
    rw [hu] at ti
    have ti : P.underlying t = some (.slice el) := ti
    obtain ⟨hb, h⟩ := onK_both h
    obtain ⟨h, hrs⟩ := rsIs_ok hr h
    obtain ⟨h0, h⟩ := br_ok (show (T.br (decide (0 ≤ i)) (.br (decide (i < (n : Int))) (.ret (.ptr id (r + i.toNat) 0, M)) .fail) .fail).holds Q Qp from h)
    obtain ⟨h1, h⟩ := br_ok h
    simp only [decide_eq_true_eq] at h0 h1
    cases hx with
    | sl _ _ _ _ x cc hp hz hc hle hk hs =>
      cases x with
      | none => have := hz rfl; omega
      | some p =>
        have hps := hs p rfl (by omega)
        refine ⟨.pointer (some (p.at (r + i.toNat) 0)), ?_, .here hr h (.ptr _ _ _ _ hp hps)⟩
        have e : (p.at r 0).add (i.toNat * (tt el).size) = p.at (r + i.toNat) 0 := by
          rw [at_add p hps, at_eq p hps, at_eq p hps, hrs p hp]
          congr 1
          simp [Nat.add_mul]
        simp [Instr.indexAt, asIntOf, run_underlying ti, h0, h1, run_sizeOf' (tok el hb), e]
  | arr len el =>
    rw [hu] at h
    obtain ⟨id, r, c, rfl, h⟩ := onPtr_ok (show (onPtr x fun id r c => onK (tt el).u (idxArr M i len (tt el).size id r c) (idxArr M i len (tt el).size id r c)).holds Q Qp from h)
    have ti := (tok t (by rw [hu]; simp)).und
    rw [hu] at ti
    have ti : P.underlying t = some (.array len el) := ti
    obtain ⟨hb, h⟩ := onK_both h
    obtain ⟨h0, h⟩ := br_ok (show (T.br (decide (0 ≤ i)) (.br (decide (i < (len : Int))) (.ret (.ptr id r (c + i.toNat * (tt el).size), M)) .fail) .fail).holds Q Qp from h)
    obtain ⟨h1, h⟩ := br_ok h
    simp only [decide_eq_true_eq] at h0 h1
    cases hx with
    | ptr _ _ _ p hp hps =>
      refine ⟨.pointer (some (p.at r (c + i.toNat * (tt el).size))), ?_, .here hr h (.ptr _ _ _ _ hp hps)⟩
      simp [Instr.indexAt, asIntOf, Instr.sureAddr, run_underlying ti, h0, h1, run_sizeOf' (tok el hb), at_add p hps]
  | st fs => rw [hu] at h; exact h.elim
  | str => rw [hu] at h; exact h.elim
  | leaf => rw [hu] at h; exact h.elim
  | ifc => rw [hu] at h; exact h.elim
  | bad => rw [hu] at h; exact h.elim

theorem evIndex_ok {P : Program} {tt : TT} (tok : TTok P tt) {N : Nat} {φ : Phi} {M : Mem} {w : World} (hr : Rep N φ M w) {t : TypeId} {x ix : AV} {y iy : Value} (hx : AVRel φ x y) (hi : AVRel φ ix iy)
    {Q : AV × Mem → Prop} {Qp : AV → Mem → Prop} (h : (evIndex tt (tt t).u M x ix).holds Q Qp) : ∃ z, (Instr.index t y iy).run P w = .ok z w ∧ Good N φ M w Q z w := by
  obtain ⟨k, i, rfl, h⟩ := onI_ok h
  obtain rfl := idx_ok hi
  cases hu : (tt t).u with
  | str =>
    rw [hu] at h
    obtain ⟨s, rfl, h⟩ := onS_ok (show (onS x fun s => .br (decide (0 ≤ i)) (.br (decide (i < (s.size : Int))) (.ret (.i .u8 (byteAt s i.toNat), M)) .fail) .fail).holds Q Qp from h)
    have ti := (tok t (by rw [hu]; simp)).und
    rw [hu] at ti
    have ti : P.underlying t = some .string := ti
    obtain ⟨h0, h⟩ := br_ok h
    obtain ⟨h1, h⟩ := br_ok h
    simp only [decide_eq_true_eq] at h0 h1
    cases hx
    refine ⟨_, ?_, .here hr h (.i _ _)⟩
    have hlt : i.toNat < s.size := by omega
    have e : s[i.toNat]? = some (s[i.toNat]'hlt) := by simp [hlt]
    have e2 : byteAt s i.toNat = ((s[i.toNat]'hlt).toNat : Int) := by
      unfold byteAt
      have : s.data.toList.getD i.toNat 0 = s[i.toNat]'hlt := by
        rw [List.getD_eq_getElem?_getD, Array.getElem?_toList, Array.getElem?_eq_getElem (by simpa using hlt)]
        rfl
      rw [this]
    simp [Instr.index, asIntOf, run_underlying ti, h0, e, e2]
  | arr len el =>
    rw [hu] at h
    obtain ⟨l, rfl, h⟩ := onAgg_ok (show (onAgg x fun l => .br (decide (0 ≤ i)) (.br (decide (i < (len : Int))) (onK (tt el).u .fail ((sel l (i.toNat * (tt el).size)).bind fun y => .ret (y, M))) .fail) .fail).holds Q Qp from h)
    have ti := (tok t (by rw [hu]; simp)).und
    rw [hu] at ti
    have ti : P.underlying t = some (.array len el) := ti
    obtain ⟨h0, h⟩ := br_ok h
    obtain ⟨h1, h⟩ := br_ok h
    simp only [decide_eq_true_eq] at h0 h1
    rcases onK_ok h with ⟨_, _, h⟩ | ⟨hb, hl, h⟩
    · exact h.elim
    rw [T.holds_bind] at h
    obtain ⟨v, hv, hq⟩ := sel_ok h
    cases hx with
    | agg _ a hrel =>
      obtain ⟨z, hz, hzr⟩ := hrel.get _ _ hv
      refine ⟨z, ?_, .here hr hq hzr⟩
      have hz : a[i.toNat * (tt el).size]? = some z := by simpa using hz
      simp [Instr.index, asIntOf, run_underlying ti, h0, h1, run_sizeOf' (tok el hb), part, run_isAgg_false (tok el hb) hl, hz]
  | sl el => rw [hu] at h; exact h.elim
  | st fs => rw [hu] at h; exact h.elim
  | leaf => rw [hu] at h; exact h.elim
  | ifc => rw [hu] at h; exact h.elim
  | bad => rw [hu] at h; exact h.elim

theorem onSt_ok {β : Type} {u : Und} {f : List (Nat × TypeId × Nat) → T β} {Q : β → Prop} {Qp : AV → Mem → Prop} (h : (onSt u f).holds Q Qp) : ∃ fs, u = .st fs ∧ (f fs).holds Q Qp := by
  cases u <;> first | exact h.elim | exact ⟨_, rfl, h⟩
theorem sizeOf_cells {P : Program} {t : TypeId} (h : P.cellsOf t ≠ 0) (w : World) : (sizeOf t).run P w = .ok (P.cellsOf t) w := by
  unfold Program.cellsOf at h ⊢
  cases hi : P.info? t with
  | none => simp [hi] at h
  | some i => simp [sizeOf, typeInfo, hi]
theorem evFieldAddr_ok {P : Program} {tt : TT} (tok : TTok P tt) {N : Nat} {φ : Phi} {M : Mem} {w : World} (hr : Rep N φ M w) {t : TypeId} {x : AV} {y : Value} (hx : AVRel φ x y) {f : Nat}
    {Q : AV × Mem → Prop} {Qp : AV → Mem → Prop} (h : (evFieldAddr (tt t).u M x f).holds Q Qp) : ∃ z, (Instr.fieldAt t y f).run P w = .ok z w ∧ Good N φ M w Q z w := by
  obtain ⟨fs, hu, h⟩ := onSt_ok h
  obtain ⟨id, r, c, rfl, h⟩ := onPtr_ok h
  obtain ⟨fd, hfd, h⟩ := onO_ok h
  obtain ⟨hz, h⟩ := brn_ok h
  have ti := (tok t (by rw [hu]; simp)).und
  rw [hu] at ti
  obtain ⟨fds, hf, hfs, _⟩ := ti
  rw [nth?_eq, hfs, List.getElem?_map] at hfd
  cases hg : fds.toList[f]? with
  | none => rw [hg] at hfd; cases hfd
  | some fld =>
    rw [hg] at hfd
    obtain rfl := Option.some.inj hfd
    have hne : P.cellsOf fld.type ≠ 0 := Nat.ne_of_beq_eq_false hz
    cases hx with
    | ptr _ _ _ p hp hps =>
      refine ⟨.pointer (some (p.at r (c + fld.offset))), ?_, .here hr h (.ptr _ _ _ _ hp hps)⟩
      have hg' : fds[f]? = some fld := by simpa using hg
      simp [Instr.fieldAt, run_underlying hf, hg', Instr.sureAddr, fieldPlace, sizeOf_cells hne, hne, at_add p hps]
theorem evField_ok {P : Program} {tt : TT} (tok : TTok P tt) {N : Nat} {φ : Phi} {M : Mem} {w : World} (hr : Rep N φ M w) {t : TypeId} {x : AV} {y : Value} (hx : AVRel φ x y) {f : Nat}
    {Q : AV × Mem → Prop} {Qp : AV → Mem → Prop} (h : (evField tt (tt t).u M x f).holds Q Qp) : ∃ z, (Instr.field t y f).run P w = .ok z w ∧ Good N φ M w Q z w := by
  obtain ⟨fs, hu, h⟩ := onSt_ok h
  obtain ⟨l, rfl, h⟩ := onAgg_ok h
  obtain ⟨fd, hfd, h⟩ := onO_ok h
  have ti := (tok t (by rw [hu]; simp)).und
  rw [hu] at ti
  obtain ⟨fds, hf, hfs, _⟩ := ti
  rw [nth?_eq, hfs, List.getElem?_map] at hfd
  cases hg : fds.toList[f]? with
  | none => rw [hg] at hfd; cases hfd
  | some fld =>
    rw [hg] at hfd
    obtain rfl := Option.some.inj hfd
    have hg' : fds[f]? = some fld := by simpa using hg
    cases hx with
    | agg _ a hrel =>
      rcases onK_ok h with ⟨hb, hl, h⟩ | ⟨hb, hl, h⟩
      · have hsz := cellsOf_eq (tok _ hb)
        refine ⟨.agg (a.extract fld.offset (fld.offset + (tt fld.type).size)), ?_, .here hr h (.agg _ _ ?_)⟩
        · simp [Instr.field, run_underlying hf, hg', asAgg, part, run_isAgg_true (tok _ hb) hl, run_sizeOf' (tok _ hb)]
        · have := (hrel.drop fld.offset).take (P.cellsOf fld.type)
          rw [hsz] at this
          simpa [Array.toList_extract, List.extract_eq_drop_take, hsz] using this
      · rw [T.holds_bind] at h
        obtain ⟨v, hv, hq⟩ := sel_ok h
        obtain ⟨z, hz, hzr⟩ := hrel.get _ _ hv
        have hz : a[fld.offset]? = some z := by simpa using hz
        refine ⟨z, ?_, .here hr hq hzr⟩
        simp [Instr.field, run_underlying hf, hg', asAgg, part, run_isAgg_false (tok _ hb) hl, hz]
end Go.Eng
