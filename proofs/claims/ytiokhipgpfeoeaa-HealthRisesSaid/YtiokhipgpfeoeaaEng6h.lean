/- An evaluator of the code of the model, and lemmas of its proof of soundness: what it tells of a call, the call does; no condition but those that each lemma names. -/
import Derived.Test.YtiokhipgpfeoeaaEng6g
import Derived.Laws.StructEq
import Derived.Laws.Cover3
import Derived.Laws.IdiomStrings
import Derived.Lib.ConvBytes
set_option linter.all false
set_option linter.deprecated false
set_option autoImplicit false
namespace Go.Eng
open Go Go.RowKit

/-! ## More that is compared -/
def CmpSh (t : TypeId) (u v : Value) : Prop := binOp .eql t u v = (do pure (.bool (← Op.equal t u v))) ∧ binOp .neq t u v = (do pure (.bool (!(← Op.equal t u v))))
theorem cmpR_ok {P : Program} {N : Nat} {φ : Phi} {M : Mem} {w : World} (hr : Rep N φ M w) {op : BinOp} {t : TypeId} {x y : Operand} {u v : Value} {r : Bool} {Q : AV × Mem → Prop} {Qp : AV → Mem → Prop} (h : (cmpR op M r).holds Q Qp)
    (hsh : CmpSh t u v) (hg : (eqGuard op t x y u v).run P w = .ok () w) (he : (Op.equal t u v).run P w = .ok r w) : ∃ z, (do eqGuard op t x y u v; binOp op t u v : Sem Value).run P w = .ok z w ∧ Good N φ M w Q z w := by
  cases op with
  | eql => exact ⟨.bool r, by simp only [Sem.run_bind, hg, Result.andThen_ok, hsh.1, he, Sem.run_pure], .here hr h (.b _)⟩
  | neq => exact ⟨.bool (!r), by simp only [Sem.run_bind, hg, Result.andThen_ok, hsh.2, he, Sem.run_pure], .here hr h (.b _)⟩
  | _ => exact h.elim

theorem eqCell_ok {P : Program} {t : TypeId} {k : CK} (hk : KindOk P t k) {φ : Phi} {w : World} {a b : AV} {u v : Value} (hu : AVRel φ a u) (hv : AVRel φ b v) {β : Type} {f : Bool → T β} {Q : β → Prop} {Qp : AV → Mem → Prop} (h : (eqCell k a b f).holds Q Qp) (d : Nat) :
    ∃ r, (Op.equalIn (d + 1) t u v).run P w = .ok r w ∧ (f r).holds Q Qp := by
  cases k with
  | int k =>
    obtain ⟨ka, x, rfl, h⟩ := onI_ok (show (onI a fun ka x => onI b fun kb y => .br (decide (ka = kb)) (f (x == y)) .fail).holds Q Qp from h)
    obtain ⟨kb, y, rfl, h⟩ := onI_ok h
    obtain ⟨e, h'⟩ := br_ok h
    clear h
    have e := of_decide_eq_true e
    subst e
    cases hu; cases hv
    exact ⟨_, run_equalIn_int w d t ka k x y hk, h'⟩
  | str =>
    obtain ⟨x, rfl, h⟩ := onS_ok (show (onS a fun x => onS b fun y => f (x.toList == y.toList)).holds Q Qp from h)
    obtain ⟨y, rfl, h⟩ := onS_ok h
    cases hu; cases hv
    exact ⟨_, run_equalIn_string w d t x y hk, h⟩
  | bool =>
    obtain ⟨x, rfl, h⟩ := onB_ok (show (onB a fun x => onB b fun y => f (x == y)).holds Q Qp from h)
    obtain ⟨y, rfl, h⟩ := onB_ok h
    cases hu; cases hv
    exact ⟨_, run_equalIn_bool' w d t x y hk, h⟩
  | _ => exact h.elim

theorem eqFs_ok {P : Program} {tt : TT} (tok : TTok P tt) {φ : Phi} {w : World} {l m : List AV} {xs ys : Array Value} (hl : AVsRel φ l xs.toList) (hm : AVsRel φ m ys.toList) {β : Type} (d : Nat) (fds : List Field) (hn : ∀ f ∈ fds, f.name ≠ "_") :
    ∀ {k : Bool → T β} {Q : β → Prop} {Qp : AV → Mem → Prop} (_ : (eqFs tt l m (fds.map fun f => (f.offset, f.type, P.cellsOf f.type)) k).holds Q Qp), ∃ r, (Op.eqFields (d + 1) xs ys fds).run P w = .ok r w ∧ (k r).holds Q Qp := by
  induction fds with
  | nil => intro k Q Qp h; exact ⟨true, by simp [Op.eqFields], h⟩
  | cons f fds ih =>
    intro k Q Qp h
    have h : ((sel l f.offset).bind fun a => (sel m f.offset).bind fun b => onK (tt f.type).u .fail (eqCell (tt f.type).kind a b fun r => eqFs tt l m (fds.map fun f => (f.offset, f.type, P.cellsOf f.type)) fun s => k (r && s))).holds Q Qp := h
    rw [T.holds_bind] at h
    obtain ⟨a, ha, h⟩ := sel_ok h
    rw [T.holds_bind] at h
    obtain ⟨b, hb, h⟩ := sel_ok h
    rcases onK_ok h with ⟨_, _, h⟩ | ⟨hbad, hleaf, h⟩
    · exact h.elim
    have te := tok _ hbad
    obtain ⟨u, hu, hur⟩ := hl.get _ _ ha
    obtain ⟨v, hv, hvr⟩ := hm.get _ _ hb
    obtain ⟨r, hr, h⟩ := eqCell_ok (w := w) te.kind hur hvr h d
    obtain ⟨s, hs, h⟩ := ih (fun f hf => hn f (by simp [hf])) h
    have pa : (part f.type xs f.offset).run P w = .ok u w := by
      have hu : xs[f.offset]? = some u := by simpa using hu
      simp [part, run_isAgg_false te hleaf, hu]
    have pb : (part f.type ys f.offset).run P w = .ok v w := by
      have hv : ys[f.offset]? = some v := by simpa using hv
      simp [part, run_isAgg_false te hleaf, hv]
    refine ⟨r && s, ?_, h⟩
    cases r with
    | false => simp [Op.eqFields, hn f (by simp), pa, pb, hr]
    | true => simp [Op.eqFields, hn f (by simp), pa, pb, hr, hs]

section
variable {P : Program} {w : World} {t : TypeId}
theorem eq_ptr {e : TypeId} (h : P.underlying t = some (.pointer e)) (d : Nat) (a : Addr) : (Op.equalIn (d + 1) t (.pointer (some a)) (.pointer none)).run P w = .ok false w ∧ (Op.equalIn (d + 1) t (.pointer none) (.pointer (some a))).run P w = .ok false w := by
  constructor <;> simp [Op.equalIn, run_underlying h]
theorem eq_sl {e : TypeId} (h : P.underlying t = some (.slice e)) (d : Nat) (x : Option Addr) (n c : Nat) : (Op.equalIn (d + 1) t (.slice x n c) (.slice none 0 0)).run P w = .ok x.isNone w ∧ (Op.equalIn (d + 1) t (.slice none 0 0) (.slice x n c)).run P w = .ok x.isNone w := by
  cases x <;> constructor <;> simp [Op.equalIn, run_underlying h]
theorem eq_map {k e : TypeId} (h : P.underlying t = some (.map k e)) (d : Nat) (b : Nat) : (Op.equalIn (d + 1) t (.map (some b)) (.map none)).run P w = .ok false w ∧ (Op.equalIn (d + 1) t (.map none) (.map (some b))).run P w = .ok false w := by
  constructor <;> simp [Op.equalIn, run_underlying h]
theorem eq_fn {a b : Array TypeId} {c : Bool} (h : P.underlying t = some (.func a b c)) (d : Nat) (f : Fn) (x y : Array Value) : (Op.equalIn (d + 1) t (.func f x y) .nilFunc).run P w = .ok false w ∧ (Op.equalIn (d + 1) t .nilFunc (.func f x y)).run P w = .ok false w := by
  constructor <;> simp [Op.equalIn, run_underlying h]
theorem eq_ifc {ms : Array (String × TypeId)} (h : P.underlying t = some (.interface ms)) (d : Nat) (s : TypeId) (x : Value) : (Op.equalIn (d + 1) t (.iface s x) .nilIface).run P w = .ok false w ∧ (Op.equalIn (d + 1) t .nilIface (.iface s x)).run P w = .ok false w := by
  constructor <;> simp [Op.equalIn, run_underlying h]
end
theorem nilA_ok {P : Program} {t : TypeId} {ti : TI} (hti : TIok P t ti) {N : Nat} {φ : Phi} {M : Mem} {w : World} (hr : Rep N φ M w) {a : AV} {u v : Value} (hu : AVRel φ a u) {β : Type} {f : Bool → T β} {Q : β → Prop} {Qp : AV → Mem → Prop} (h : (nilA M ti a v f).holds Q Qp) :
    ∃ r, (Op.equal t u v).run P w = .ok r w ∧ (Op.equal t v u).run P w = .ok r w ∧ ((∀ op x y, (eqGuard op t x y u v).run P w = .ok () w ∧ (eqGuard op t x y v u).run P w = .ok () w) ∧ CmpSh t u v ∧ CmpSh t v u) ∧ (f r).holds Q Qp := by
  have hk := hti.kind
  have hun := hti.und
  cases hu with
  | ptr id r c p hp =>
    have h : (nilPtr v (ifK ti.kind (f false) .fail .fail)).holds Q Qp := h
    unfold nilPtr at h
    split at h
    · cases hc : ti.kind <;> rw [hc] at h hk <;> first | exact h.elim | skip
      obtain ⟨e, hd⟩ := hk
      exact ⟨false, (eq_ptr hd 9999 _).1, (eq_ptr hd 9999 _).2, ⟨fun op x y => by cases op <;> exact ⟨rfl, rfl⟩, ⟨rfl, rfl⟩, ⟨rfl, rfl⟩⟩, h⟩
    · exact h.elim
  | sl id r n cap x cc hp h0 hc hle hkk hss =>
    obtain ⟨hv, h'⟩ := nilSl_ok (show (nilSl v (onUsl ti.u (nilFlag (M.get id) f))).holds Q Qp from h)
    clear h
    subst hv
    have h : (onUsl ti.u (nilFlag (M.get id) f)).holds Q Qp := h'
    clear h'
    cases hcu : ti.u <;> rw [hcu] at h hun <;> first | exact h.elim | skip
    rename_i el
    have hun : P.underlying t = some (.slice el) := hun
    have h : (nilFlag (M.get id) f).holds Q Qp := h
    refine ⟨x.isNone, ?_, ?_, ⟨fun op x y => by cases op <;> exact ⟨rfl, rfl⟩, ⟨rfl, rfl⟩, ⟨rfl, rfl⟩⟩, ?_⟩
    · have := (eq_sl (w := w) hun 9999 (x.map fun p => p.at r 0) n cc).1
      rw [Option.isNone_map] at this; exact this
    · have := (eq_sl (w := w) hun 9999 (x.map fun p => p.at r 0) n cc).2
      rw [Option.isNone_map] at this; exact this
    · have ho := hr.objs id
      unfold nilFlag at h
      cases hg : M.get id with
      | dead => rw [hg] at h; exact h.elim
      | ro nil n' cols =>
        rw [hg] at h ho
        obtain ⟨_, y, hy, hn, _⟩ := ho
        rw [hp] at hy; cases hy
        rw [← hn]; exact h
      | own e rs cells =>
        rw [hg] at h ho
        obtain ⟨q, hq, _⟩ := ho
        rw [hp] at hq; cases hq
        exact h
      | vec e n' cols =>
        rw [hg] at h ho
        obtain ⟨_, q, hq, _⟩ := ho
        rw [hp] at hq; cases hq
        exact h
  | e A cc =>
    obtain ⟨hv, h'⟩ := nilSl_ok (show (nilSl v (onUsl ti.u (f false))).holds Q Qp from h)
    clear h
    subst hv
    have h : (onUsl ti.u (f false)).holds Q Qp := h'
    clear h'
    cases hcu : ti.u <;> rw [hcu] at h hun <;> first | exact h.elim | skip
    rename_i el
    have hun : P.underlying t = some (.slice el) := hun
    exact ⟨false, (eq_sl hun 9999 (some A) 0 cc).1, (eq_sl hun 9999 (some A) 0 cc).2, ⟨fun op x y => by cases op <;> exact ⟨rfl, rfl⟩, ⟨rfl, rfl⟩, ⟨rfl, rfl⟩⟩, h⟩
  | mp id p hp =>
    have h : (nilMap v (ifK ti.kind .fail (f false) .fail)).holds Q Qp := h
    unfold nilMap at h
    split at h
    · cases hc : ti.kind <;> rw [hc] at h hk <;> first | exact h.elim | skip
      obtain ⟨k, e, hd⟩ := hk
      exact ⟨false, (eq_map hd 9999 _).1, (eq_map hd 9999 _).2, ⟨fun op x y => by cases op <;> exact ⟨rfl, rfl⟩, ⟨rfl, rfl⟩, ⟨rfl, rfl⟩⟩, h⟩
    · exact h.elim
  | fn g l ca hl =>
    have h : (nilFn v (ifK ti.kind .fail .fail (f false))).holds Q Qp := h
    unfold nilFn at h
    split at h
    · cases hc : ti.kind <;> rw [hc] at h hk <;> first | exact h.elim | skip
      obtain ⟨k, e, g, hd⟩ := hk
      exact ⟨false, (eq_fn hd 9999 _ _ _).1, (eq_fn hd 9999 _ _ _).2, ⟨fun op x y => by cases op <;> exact ⟨rfl, rfl⟩, ⟨rfl, rfl⟩, ⟨rfl, rfl⟩⟩, h⟩
    · exact h.elim
  | ifc s x y hx =>
    have h : (nilIfc v (onUifc ti.u (f false))).holds Q Qp := h
    unfold nilIfc at h
    split at h
    · cases hcu : ti.u <;> rw [hcu] at h hun <;> first | exact h.elim | skip
      obtain ⟨ms, hd⟩ := hun
      exact ⟨false, (eq_ifc hd 9999 _ _).1, (eq_ifc hd 9999 _ _).2, ⟨fun op x y => by cases op <;> exact ⟨rfl, rfl⟩, ⟨rfl, rfl⟩, ⟨rfl, rfl⟩⟩, h⟩
    · exact h.elim
  | _ => exact h.elim

theorem evBin_ok {P : Program} {tt : TT} (tok : TTok P tt) {N : Nat} {φ : Phi} {M : Mem} {w : World} (hr : Rep N φ M w) {op : BinOp} {t : TypeId} (ht : (tt t).u ≠ .bad) {x y : Operand} {a b : AV} {u v : Value} (hu : AVRel φ a u) (hv : AVRel φ b v)
    {Q : AV × Mem → Prop} {Qp : AV → Mem → Prop} (h : (evBin P tt M op t x y a b).holds Q Qp) : ∃ z, (do eqGuard op t x y u v; binOp op t u v : Sem Value).run P w = .ok z w ∧ Good N φ M w Q z w := by
  unfold evBin at h
  rw [bif2_eq] at h
  split at h
  · obtain ⟨c, rfl, h⟩ := onV_ok h
    cases hv
    obtain ⟨r, h1, _, h3, h⟩ := nilA_ok (tok t ht) hr hu h
    exact cmpR_ok hr h h3.2.1 (h3.1 op x y).1 h1
  rw [bif2_eq] at h
  split at h
  · obtain ⟨c, rfl, h⟩ := onV_ok h
    cases hu
    obtain ⟨r, _, h2, h3, h⟩ := nilA_ok (tok t ht) hr hv h
    exact cmpR_ok hr h h3.2.2 (h3.1 op x y).2 h2
  have plain : (retM M (binA P (tt t).kind op t x y a b)).holds Q Qp → ∃ z, (do eqGuard op t x y u v; binOp op t u v : Sem Value).run P w = .ok z w ∧ Good N φ M w Q z w := by
    intro h
    obtain ⟨z, xa, h1, h2, h3⟩ := binA_ok (w := w) tok ht (x := x) (y := y) hu hv (retM_ok h)
    exact ⟨z, h1, .here hr h2 h3⟩
  cases hu with
  | i => exact plain h
  | b => exact plain h
  | s => exact plain h
  | v => exact plain h
  | agg l xs hl =>
    obtain ⟨m, rfl, h⟩ := onAgg_ok (show (eqAgg tt t op M l b).holds Q Qp from h)
    obtain ⟨fs, hst, h⟩ := onSt_ok h
    obtain ⟨hc, h⟩ := br_ok h
    cases hv with
    | agg _ ys hm =>
      have ti := tok t ht
      obtain ⟨c1, c2, c3⟩ := ti.cmp hc
      have hun := ti.und
      rw [hst] at hun
      obtain ⟨fds, hf, hfs, _⟩ := hun
      rw [hfs] at h
      have hfo : P.fieldsOf t = fds := by simp [Program.fieldsOf, hf]
      obtain ⟨r, hrun, h⟩ := eqFs_ok (P := P) (w := w) tok hl hm 9998 fds.toList (c3 fds hf) h
      refine cmpR_ok hr h ⟨rfl, rfl⟩ (run_eqGuard_agg w op t x y xs ys c2) ?_
      have := run_equalIn_struct (P := P) w 9999 t xs ys (by rw [hfo]; exact hf) c1
      rw [hfo, hrun] at this
      exact this
  | _ => exact h.elim

/-! ## Strings and bytes -/
theorem ifU8_ok {β : Type} {k : CK} {t : T β} {Q : β → Prop} {Qp : AV → Mem → Prop} (h : (ifU8 k t).holds Q Qp) : k = .int .u8 ∧ t.holds Q Qp := by
  cases k with
  | int k => cases k <;> first | exact ⟨rfl, h⟩ | exact h.elim
  | _ => exact h.elim
theorem toBytes_ok {P : Program} {N : Nat} {φ : Phi} {M : Mem} {w : World} (hr : Rep N φ M w) {s d el : TypeId} {b : ByteArray} {u : TypeDesc} (hs : P.underlying s = some u) (hd : P.underlying d = some (.slice el)) (he : P.underlying el = some (.int .u8))
    {Q : AV × Mem → Prop} {Qp : AV → Mem → Prop} (h : (toBytes M el b).holds Q Qp) : ∃ z w', (convert s d (.string b)).run P w = .ok z w' ∧ Good N φ M w Q z w' := by
  refine ⟨_, _, Lib.run_convert_string_bytes w s d el b hs hd he, ?_⟩
  have hge := grownCap_ge w b.size 0 el
  have hbl : b.data.toList.length = b.size := by rw [Array.length_toList]; rfl
  have hsz : (Lib.bytesCells w el b).size = grownCap w b.size 0 el := by
    simp only [Lib.bytesCells, Array.size_append, Array.size_map, Array.size_replicate]
    have : b.data.size = b.size := rfl
    omega
  let p : Pl := ⟨w.heap.size, 0, 1, grownCap w b.size 0 el, none⟩
  have hf := (hr.fresh M.next (Nat.le_refl _)).2
  have hlen : (bytesCol b).length = b.size := by unfold bytesCol; rw [List.length_map, Array.length_toList]; rfl
  -- the block is laid, then marked behind its end
  have hlaid : ∀ (w' : World), w'.heap.size = w.heap.size + 1 → (∀ k, k < w.heap.size → w'.heap[k]? = w.heap[k]?) → w'.os = w.os → w'.tape = w.tape → w'.output = w.output →
      ObjRel N (updP φ M.next (some p)) w' M.next (.vec el b.size [.ci .u8 (bytesCol b)]) →
      Rep N (updP φ M.next (some p)) (M.new (.vec el b.size [.ci .u8 (bytesCol b)])) w' ∧ Ext φ M w (updP φ M.next (some p)) (M.new (.vec el b.size [.ci .u8 (bytesCol b)])) w' := by
    intro w' h1 h2 h3 h4 h5 hob
    have hle := updP_le (some p) hf
    have own : ∀ id q, isOwn ((M.new (.vec el b.size [.ci .u8 (bytesCol b)])).get id) → updP φ M.next (some p) id = some (some q) → (id = M.next ∧ q = p) ∨ (id ≠ M.next ∧ isOwn (M.get id) ∧ φ id = some (some q)) := by
      intro id q ho hq
      simp only [Mem.get_new] at ho
      by_cases e : id = M.next
      · subst e; left; simpa using hq.symm
      · right
        rw [if_neg e] at ho
        exact ⟨e, ho, by simpa [updP, e] using hq⟩
    have hpb : p.b = w.heap.size := rfl
    refine ⟨⟨fun id => ?_, fun id id' q q' ho1 ho' hq hq' e => ?_, fun id q ho1 hq => ?_, fun id hid => ?_, ?_⟩, ⟨hle, fun _ h => updP_lt _ h, by simp, rfl, h3, h4, h5, by omega, fun k hk _ => h2 k hk, fun id q ho1 hq hlt => ?_⟩⟩
    · simp only [Mem.get_new]
      split
      · rename_i e; subst e; exact hob
      · exact (hr.objs id).step hle (fun k hk => h2 k (Nat.lt_of_lt_of_le hk hr.size)) (fun ho1 q hq => h2 _ (hr.lt id q ho1 hq))
    · rcases own id q ho1 hq with ⟨rfl, rfl⟩ | ⟨k1, k2, k3⟩ <;> rcases own id' q' ho' hq' with ⟨rfl, rfl⟩ | ⟨k4, k5, k6⟩
      · rfl
      · have := hr.lt id' q' k5 k6; omega
      · have := hr.lt id q k2 k3; omega
      · exact hr.sep id id' q q' k2 k5 k3 k6 e
    · rcases own id q ho1 hq with ⟨rfl, rfl⟩ | ⟨k1, k2, k3⟩
      · rw [hpb]; exact hr.size
      · exact hr.high id q k2 k3
    · simp only [Mem.next_new] at hid
      have hne : id ≠ M.next := by omega
      simp only [Mem.get_new, if_neg hne]
      obtain ⟨k1, k2⟩ := hr.fresh id (by omega)
      exact ⟨k1, by simp [updP, hne, k2]⟩
    · have := hr.size; omega
    · rcases own id q ho1 hq with ⟨rfl, rfl⟩ | ⟨k1, k2, k3⟩
      · omega
      · exact ⟨id, q, k2, k3, rfl, fun h => h⟩
  have key := hlaid (Lib.bytesWorld w el b) (Lib.bytesWorld_size w el b) (fun k hk => Lib.bytesWorld_at_old w el b k hk) rfl rfl rfl (by
    refine ⟨fun c col hc => ?_, p, updP_self .., ⟨rfl, rfl⟩, rfl, ⟨_, _, Lib.bytesWorld_at_new w el b, by rw [hsz]; simp [p], .inr (by rw [hsz]; simp [p])⟩, hge, fun j hj c col hc => ?_⟩
    · cases c with
      | zero => simp at hc; subst hc; exact hlen
      | succ c => simp at hc
    · cases c with
      | succ c => simp at hc
      | zero =>
        simp at hc; subst hc
        refine ⟨.int .u8 (b.data.toList.getD j 0).toNat, ?_, ?_⟩
        · have := Lib.bytesWorld_cell w el b j hj
          rw [at_eq p rfl]
          simpa [p] using this
        · have := ColRel.ci (N := N) (w := Lib.bytesWorld w el b) .u8 (bytesCol b) j
          have hj' : j < b.data.toList.length := by omega
          rw [getD_of (x := ((b.data.toList[j]).toNat : Int)) (by simp only [bytesCol, List.getElem?_map, List.getElem?_eq_getElem hj', Option.map_some])] at this
          rw [getD_of (List.getElem?_eq_getElem hj')]
          exact this)
  refine ⟨_, _, _, h, ?_, key.1, key.2⟩
  have := AVRel.sl (φ := updP φ M.next (some p)) M.next 0 b.size none _ (grownCap w b.size 0 el) (updP_self ..) (fun h => by cases h) (fun c h => by cases h) hge (fun q h => by cases h; simp [p]) (fun q h _ => by cases h; rfl)
  simpa [Pl.at, p] using this
theorem ofBytes_ok {P : Program} {N : Nat} {φ : Phi} {M : Mem} {w : World} (hr : Rep N φ M w) {s d el : TypeId} {ti : TI} (hs : P.underlying s = some (.slice el)) (hd : P.underlying d = some .string) (he : P.underlying el = some (.int .u8)) {id r n : Nat} {cap : Option Nat} {y : Value} (hx : AVRel φ (.sl id r n cap) y)
    {Q : AV × Mem → Prop} {Qp : AV → Mem → Prop} (h : (ofBytes ti M id r n).holds Q Qp) : ∃ z w', (convert s d y).run P w = .ok z w' ∧ Good N φ M w Q z w' := by
  obtain ⟨h1, h⟩ := br_ok h
  have h1 : ti.size = 1 := Nat.eq_of_beq_eq_true h1
  obtain ⟨h, hrs⟩ := rsIs_ok hr h
  cases hx with
  | sl _ _ _ _ x cc hp h0 hcap hle hk hss =>
    obtain ⟨c, vs, h2, hl, hrel, hone, hcells⟩ := acOf_ok hr hp hrs h0 h
    obtain ⟨c', hc', h3⟩ := onO_ok h2
    obtain ⟨l, hl', h5⟩ := onO_ok h3
    clear h h2 h3
    have hrel := normC_ok hrel hc'
    have hc2 : ∃ m, c' = .cols m [.ci .u8 l] := by
      unfold u8col at hl'
      split at hl'
      · cases hl'; exact ⟨_, rfl⟩
      · cases hl'
    obtain ⟨m, rfl⟩ := hc2
    obtain ⟨rfl, hlen, hcols⟩ := hrel
    have hll : l.length = m := hlen 0 _ rfl
    have hvs : vs = l.map (Value.int .u8) := by
      apply List.ext_getElem?
      intro j
      by_cases hj : j < m
      · obtain ⟨z, hz, hzr⟩ := hcols j hj 0 _ rfl
        rw [h1] at hz
        simp only [Nat.mul_one, Nat.add_zero] at hz
        rw [hz, List.getElem?_map, List.getElem?_eq_getElem (by omega)]
        cases hzr
        rw [getD_of (List.getElem?_eq_getElem (by omega))]; rfl
      · rw [List.getElem?_eq_none (by rw [hl, h1]; omega), List.getElem?_eq_none (by rw [List.length_map]; omega)]
    have hfold : ∀ (l : List Int) (r : ByteArray), l.foldl (fun r n => r.push (UInt8.ofNat n.toNat)) r = ⟨r.data ++ (l.map fun n => UInt8.ofNat n.toNat).toArray⟩ := by
      intro l
      induction l with
      | nil => intro r; simp
      | cons a l ih => intro r; simp only [List.foldl_cons]; rw [ih]; simp [ByteArray.push]
    have hstr : l.foldl (fun r n => r.push (UInt8.ofNat n.toNat)) ByteArray.empty = strOf l := by
      rw [hfold, show ByteArray.empty.data = #[] from rfl]
      simp [strOf]
    cases x with
    | none =>
      have := h0 rfl
      subst this
      have hl0 : l = [] := List.length_eq_zero_iff.1 hll
      subst hl0
      refine ⟨.string .empty, w, ?_, .here hr h5 (.s _)⟩
      rw [Option.map_none, run_convert_bytes_string w s d el none 0 cc hs he hd]
      simp [Conv.bytesToString]
    | some p =>
      refine ⟨.string (strOf l), w, ?_, .here hr h5 (.s _)⟩
      rw [Option.map_some, run_convert_bytes_string w s d el _ m cc hs he hd]
      have hld := run_loadCells_list (P := P) w (p.at r 0) vs (hcells p rfl)
      rw [hl, h1, Nat.mul_one, hvs] at hld
      rw [run_bytesToString w (p.at r 0) m cc l hld, hstr]

/-- A row gets the run-time's mark. -/
theorem markSl_ok {P : Program} {N : Nat} {φ : Phi} {M : Mem} {w : World} (hr : Rep N φ M w) {s el : TypeId} (hs : P.underlying s = some (.slice el)) (he : P.underlying el = some (.int .u8)) {id r n : Nat} {cap : Option Nat} {y : Value} (hx : AVRel φ (.sl id r n cap) y)
    {Q : AV × Mem → Prop} {Qp : AV → Mem → Prop} (h : (markSl M id r n cap).holds Q Qp) : ∃ z w', (convert s s y).run P w = .ok z w' ∧ Good N φ M w Q z w' := by
  have hkey : Q (.sl id r n cap, M) ∧ M.lock ≤ id ∧ ∃ p e k, φ id = some (some p) ∧ isOwn (M.get id) ∧ OwnBlock w p.b e k := by
    have ho := hr.objs id
    unfold markSl at h
    cases hg : M.get id with
    | dead => rw [hg] at h; exact h.elim
    | ro => rw [hg] at h; exact h.elim
    | own e rs cells =>
      rw [hg] at h ho
      obtain ⟨h1, h2⟩ := br_ok h
      obtain ⟨p, hp, _, _, hb, _⟩ := ho
      exact ⟨h2, Nat.le_of_ble_eq_true h1, p, _, _, hp, trivial, hb⟩
    | vec e m cols =>
      rw [hg] at h ho
      obtain ⟨h1, h2⟩ := br_ok h
      obtain ⟨_, p, hp, _, _, hb, _⟩ := ho
      exact ⟨h2, Nat.le_of_ble_eq_true h1, p, _, _, hp, trivial, hb⟩
  obtain ⟨hq, hl, p, e, k, hp, hown, hblk⟩ := hkey
  cases hx with
  | sl _ _ _ _ x cc hpx h0 hcap hle hk hss =>
    rw [hp] at hpx; cases hpx
    have hblk0 := hblk
    obtain ⟨cur, ⟨lo, hi⟩, hcur, hsz, hfz⟩ := hblk
    have hsh : w.shape? p.b = some (e, cur.size) := by simp [World.shape?, hcur]
    let w' := w.freeze ⟨p.b, cur.size, none⟩ 1
    have hheap : ∀ b, w'.heap[b]? = if b = p.b then some (.cells cur e (if lo == hi then (cur.size, cur.size + 1) else (min lo cur.size, max hi (cur.size + 1)))) else w.heap[b]? := by
      intro b
      show (w.freeze ⟨p.b, cur.size, none⟩ 1).heap[b]? = _
      unfold World.freeze
      rw [if_neg (by decide)]
      simp only [Array.getElem?_modify]
      by_cases hb : b = p.b
      · subst hb; simp [hcur]
      · rw [if_neg (Ne.symm hb), if_neg hb]
    have hcell : ∀ a, w'.cell? a = w.cell? a := by
      intro a
      simp only [World.cell?, hheap]
      by_cases hb : a.block = p.b
      · rw [if_pos hb, hb, hcur]
      · rw [if_neg hb]
    have hownb : ∀ b e' k', OwnBlock w b e' k' → OwnBlock w' b e' k' := by
      intro b e' k' ⟨c', f', h1, h2, h3⟩
      by_cases hb : b = p.b
      · subst hb
        rw [hcur] at h1
        cases h1
        refine ⟨cur, _, by rw [hheap, if_pos rfl], h2, .inr ?_⟩
        rcases h3 with h3 | h3
        · cases h3; simp [h2]
        · simp only at h3
          split
          · simp [h2]
          · simp only; omega
      · exact ⟨c', f', by rw [hheap, if_neg hb]; exact h1, h2, h3⟩
    have hN := hr.high id p hown hp
    have hsame : SameBelow N w w' := fun b hb => by rw [hheap, if_neg (by omega)]
    refine ⟨.slice (some (p.at r 0)) n cc, w', ?_, φ, .sl id r n cap, M, hq, .sl id r n cap (some p) cc hp h0 hcap hle hk hss, ⟨fun j => ?_, hr.sep, hr.high, hr.fresh, ?_⟩, ⟨.refl _, fun _ _ => rfl, Nat.le_refl _, rfl, ?_, ?_, ?_, ?_, fun b hb hno => ?_, fun j q h1 h2 _ => ⟨j, q, h1, h2, rfl, fun h => h⟩⟩⟩
    · simp [convert, run_underlying hs, run_underlying he, markStringish, Pl.at, hsh]
      rfl
    · have ho := hr.objs j
      cases hg : M.get j with
      | dead => trivial
      | ro nil m cols =>
        rw [hg] at ho
        exact ho.step (.refl _) hsame (fun h => h.elim)
      | own e' rs cells =>
        rw [hg] at ho
        obtain ⟨q, k1, k2, k3, k4, k5, k6⟩ := ho
        refine ⟨q, k1, k2, k3, hownb _ _ _ k4, k5, fun i a ha => ?_⟩
        obtain ⟨z, hz, hzr⟩ := k6 i a ha
        exact ⟨z, (hcell _).trans hz, hzr⟩
      | vec e' m cols =>
        rw [hg] at ho
        obtain ⟨k0, q, k1, k2, k3, k4, k5, k6⟩ := ho
        refine ⟨k0, q, k1, k2, k3, hownb _ _ _ k4, k5, fun i hi c col hc => ?_⟩
        obtain ⟨z, hz, hzr⟩ := k6 i hi c col hc
        exact ⟨z, (hcell _).trans hz, hzr.same hsame⟩
    · show N ≤ (w.freeze _ 1).heap.size
      have := hr.size
      simpa [World.freeze] using this
    · show (w.freeze _ 1).os = w.os; simp [World.freeze]
    · show (w.freeze _ 1).tape = w.tape; simp [World.freeze]
    · show (w.freeze _ 1).output = w.output; simp [World.freeze]
    · show w.heap.size ≤ (w.freeze _ 1).heap.size; simp [World.freeze]
    · rw [hheap, if_neg]
      intro e; exact hno id p hl hown hp e.symm

theorem onUslE_ok {β : Type} {u : Und} {f : TypeId → T β} {Q : β → Prop} {Qp : AV → Mem → Prop} (h : (onUslE u f).holds Q Qp) : ∃ el, u = .sl el ∧ (f el).holds Q Qp := by
  cases u <;> first | exact h.elim | exact ⟨_, rfl, h⟩
theorem evConv_ok {P : Program} {tt : TT} (tok : TTok P tt) {N : Nat} {φ : Phi} {M : Mem} {w : World} (hr : Rep N φ M w) {s d : TypeId} (hd : (tt d).u ≠ .bad) (hs : ∃ e, P.underlying s = some e) {x : AV} {y : Value} (hx : AVRel φ x y)
    {Q : AV × Mem → Prop} {Qp : AV → Mem → Prop} (h : (evConv P tt M s d x).holds Q Qp) : ∃ z w', (convert s d y).run P w = .ok z w' ∧ Good N φ M w Q z w' := by
  have plain : (retM M (convA P (tt d) s d x)).holds Q Qp → ∃ z w', (convert s d y).run P w = .ok z w' ∧ Good N φ M w Q z w' := by
    intro h
    obtain ⟨z, xa, h1, h2, h3⟩ := convA_ok (w := w) tok hd hs hx (retM_ok h)
    exact ⟨z, w, h1, .here hr h2 h3⟩
  cases hx with
  | i => exact plain h
  | b => exact plain h
  | v => exact plain h
  | s b =>
    have hun := (tok d hd).und
    have h : (@Und.casesOn (fun _ => T (AV × Mem)) (tt d).u (fun el => onK (tt el).u .fail (ifU8 (tt el).kind (toBytes M el b))) (fun _ _ => .fail) (fun _ => .fail) (retM M (convA P (tt d) s d (.s b))) .fail .fail .fail).holds Q Qp := h
    cases hu : (tt d).u with
    | sl el =>
      rw [hu] at h hun
      rcases onK_ok h with ⟨_, _, h⟩ | ⟨hb, _, h⟩
      · exact h.elim
      obtain ⟨hk, h⟩ := ifU8_ok h
      have hk' := (tok el hb).kind
      rw [hk] at hk'
      obtain ⟨u, hs⟩ := hs
      exact toBytes_ok hr hs hun hk' h
    | str => rw [hu] at h; exact plain h
    | _ => rw [hu] at h; exact h.elim
  | sl id r n cap pl cc hp h0 hc hle hk hss =>
    have hun := (tok d hd).und
    have h : (@Und.casesOn (fun _ => T (AV × Mem)) (tt d).u (fun el => .br (Nat.beq s d) (onK (tt el).u .fail (ifU8 (tt el).kind (markSl M id r n cap))) .fail) (fun _ _ => .fail) (fun _ => .fail) (onUslE (tt s).u fun el => onK (tt el).u .fail (ifU8 (tt el).kind (ofBytes (tt el) M id r n))) .fail .fail .fail).holds Q Qp := h
    cases hu : (tt d).u with
    | str =>
      rw [hu] at h hun
      obtain ⟨el, hus, h⟩ := onUslE_ok h
      rcases onK_ok h with ⟨_, _, h⟩ | ⟨hb, _, h⟩
      · exact h.elim
      obtain ⟨hk', h⟩ := ifU8_ok h
      have hkk := (tok el hb).kind
      rw [hk'] at hkk
      have hsu := (tok s (by rw [hus]; simp)).und
      rw [hus] at hsu
      exact ofBytes_ok hr hsu hun hkk (.sl id r n cap pl cc hp h0 hc hle hk hss) h
    | sl el =>
      rw [hu] at h hun
      obtain ⟨hsd, h⟩ := br_ok h
      have hsd : s = d := Nat.eq_of_beq_eq_true hsd
      rcases onK_ok h with ⟨_, _, h⟩ | ⟨hb, _, h⟩
      · exact h.elim
      obtain ⟨hk', h⟩ := ifU8_ok h
      have hkk := (tok el hb).kind
      rw [hk'] at hkk
      rw [hsd]
      exact markSl_ok hr hun hkk (.sl id r n cap pl cc hp h0 hc hle hk hss) h
    | _ => rw [hu] at h; exact h.elim
  | _ => exact h.elim
end Go.Eng
