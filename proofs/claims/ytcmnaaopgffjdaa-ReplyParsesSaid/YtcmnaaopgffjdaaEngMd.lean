/- An evaluator of the code of the model, and lemmas of its proof of soundness: what it tells of a call, the call does; no condition but those that each lemma names. -/
import Derived.Test.YtcmnaaopgffjdaaEngMc
import Derived.KernelRfl
import Derived.Laws.Externs
import Derived.Recover
import Derived.Laws.FloatArith
set_option linter.all false
set_option linter.deprecated false
set_option autoImplicit false
namespace Go.Eng
open Go Go.RowKit
variable {gl : Nat → Nat → Option Value}

abbrev hd0 : Bool × Nat × Nat := (true, 0, 0)
inductive ColFact : SK → Col → Prop
  | int (k : IntKind) (l : List Int) (h : ∀ x ∈ l, (Lit.int k x).wf = true) : ColFact (.int k) (.ci k l)
  | bool (l : List Bool) : ColFact .bool (.cb l)
  | str (l : List ByteArray) (h : ∀ x ∈ l, x.size ≤ maxLen) : ColFact .str (.cs l)
  | flt (k : FloatKind) (l : List Nat) (h : ∀ x ∈ l, (Lit.float k x).wf = true) : ColFact (.flt k) (.cf k l)
  | sl (m : Nat) (ks : Nat → SK) (h : List (Bool × Nat × Nat)) (sub : Nat → List Col) (hm : ∀ j, (sub j).length = m)
      (hb : ∀ j, (h.getD j hd0).2.1 ≤ (h.getD j hd0).2.2 ∧ (h.getD j hd0).2.2 ≤ maxLen ∧ ((h.getD j hd0).1 = true → (h.getD j hd0).2.1 = 0))
      (hc : ∀ j, ∀ (c : Nat) (col : Col), (sub j)[c]? = some col → col.len = (h.getD j hd0).2.1)
      (hf : ∀ j, ∀ (c : Nat) (col : Col), (sub j)[c]? = some col → ColFact (ks c) col) : ColFact (.sl m ks) (.cl h sub)

def intOf : Value → Int
  | .int _ m => m
  | _ => 0
def boolOf : Value → Bool
  | .bool m => m
  | _ => false
def stringOf : Value → ByteArray
  | .string m => m
  | _ => .empty
def floatOf : Value → Nat
  | .float _ m => m
  | _ => 0
theorem range_getD {α : Type} (f : Nat → α) (d : α) {n j : Nat} (hj : j < n) : ((List.range n).map f).getD j d = f j := by
  simp [List.getD_eq_getElem?_getD, List.getElem?_range hj]
def RowAt (gl : Nat → Nat → Option Value) (w : World) (m : Nat) (ks : Nat → SK) (v : Value) (e : Bool × Nat × Nat) (cols : List Col) : Prop :=
  cols.length = m ∧ (e.2.1 ≤ e.2.2 ∧ e.2.2 ≤ maxLen ∧ (e.1 = true → e.2.1 = 0)) ∧ (∀ (c : Nat) (col : Col), cols[c]? = some col → col.len = e.2.1 ∧ ColFact (ks c) col) ∧
        ∃ A : Option Addr, v = .slice A e.2.1 e.2.2 ∧ e.1 = A.isNone ∧ (A = none → e.2.1 = 0) ∧ (∀ a, A = some a → 0 < e.2.1 → a.block < w.heap.size ∧ a.spot = none) ∧
          ∃ zf : Nat → Nat → Value, (∀ a, A = some a → ∀ j, j < e.2.1 → ∀ (c : Nat) (col : Col), cols[c]? = some col → w.cell? ⟨a.block, a.off + (j * cols.length + c), none⟩ = some (zf j c)) ∧
            ∀ j, j < e.2.1 → ∀ (c : Nat) (col : Col), cols[c]? = some col → ColRel ⟨w.heap.size, gl⟩ w col j (zf j c)
theorem col_ex {w : World} (k : SK) : ∀ (n : Nat) (z : Nat → Value), (∀ j, j < n → CellOk w k (z j)) → ∃ col, ColFact k col ∧ col.len = n ∧ ∀ j, j < n → ColRel ⟨w.heap.size, gl⟩ w col j (z j) := by
  induction k with
  | int k =>
    intro n z h
    have : ∃ f : Nat → Int, ∀ j, j < n → z j = .int k (f j) ∧ (Lit.int k (f j)).wf = true := by
      refine ⟨fun j => intOf (z j), fun j hj => ?_⟩
      have := h j hj
      simp only
      generalize z j = v at this ⊢
      cases this with | int _ m hm => exact ⟨rfl, hm⟩
    obtain ⟨f, hf⟩ := this
    refine ⟨.ci k ((List.range n).map f), .int k _ (fun x hx => ?_), by simp [Col.len], fun j hj => ?_⟩
    · obtain ⟨i, hi, rfl⟩ := List.mem_map.1 hx
      exact (hf i (List.mem_range.1 hi)).2
    · rw [(hf j hj).1]
      have := ColRel.ci (N := ⟨w.heap.size, gl⟩) (w := w) k ((List.range n).map f) j
      rwa [range_getD f 0 hj] at this
  | bool =>
    intro n z h
    have : ∃ f : Nat → Bool, ∀ j, j < n → z j = .bool (f j) := by
      refine ⟨fun j => boolOf (z j), fun j hj => ?_⟩
      have := h j hj
      simp only
      generalize z j = v at this ⊢
      cases this with | bool m => rfl
    obtain ⟨f, hf⟩ := this
    refine ⟨.cb ((List.range n).map f), .bool _, by simp [Col.len], fun j hj => ?_⟩
    rw [hf j hj]
    have := ColRel.cb (N := ⟨w.heap.size, gl⟩) (w := w) ((List.range n).map f) j
    rwa [range_getD f _ hj] at this
  | str =>
    intro n z h
    have : ∃ f : Nat → ByteArray, ∀ j, j < n → z j = .string (f j) ∧ (f j).size ≤ maxLen := by
      refine ⟨fun j => stringOf (z j), fun j hj => ?_⟩
      have := h j hj
      simp only
      generalize z j = v at this ⊢
      cases this with | str m hm => exact ⟨rfl, hm⟩
    obtain ⟨f, hf⟩ := this
    refine ⟨.cs ((List.range n).map f), .str _ (fun x hx => ?_), by simp [Col.len], fun j hj => ?_⟩
    · obtain ⟨i, hi, rfl⟩ := List.mem_map.1 hx
      exact (hf i (List.mem_range.1 hi)).2
    · rw [(hf j hj).1]
      have := ColRel.cs (N := ⟨w.heap.size, gl⟩) (w := w) ((List.range n).map f) j
      rwa [range_getD f _ hj] at this
  | flt k =>
    intro n z h
    have : ∃ f : Nat → Nat, ∀ j, j < n → z j = .float k (f j) ∧ (Lit.float k (f j)).wf = true := by
      refine ⟨fun j => floatOf (z j), fun j hj => ?_⟩
      have := h j hj
      simp only
      generalize z j = v at this ⊢
      cases this with | flt _ m hm => exact ⟨rfl, hm⟩
    obtain ⟨f, hf⟩ := this
    refine ⟨.cf k ((List.range n).map f), .flt k _ (fun x hx => ?_), by simp [Col.len], fun j hj => ?_⟩
    · obtain ⟨i, hi, rfl⟩ := List.mem_map.1 hx
      exact (hf i (List.mem_range.1 hi)).2
    · rw [(hf j hj).1]
      have := ColRel.cf (N := ⟨w.heap.size, gl⟩) (w := w) k ((List.range n).map f) j
      rwa [range_getD f 0 hj] at this
  | sl m ks ih =>
    intro n z h
    -- one row
    have one : ∀ v, CellOk w (.sl m ks) v → ∃ (e : Bool × Nat × Nat) (cols : List Col), RowAt gl w m ks v e cols := by
      intro v hv
      cases hv with
      | slnil =>
        have : ∃ f : Nat → Col, ∀ c, ColFact (ks c) (f c) ∧ (f c).len = 0 := by
          refine ⟨fun c => Classical.choose (ih c 0 (fun _ => undef) (fun j hj => absurd hj (Nat.not_lt_zero _))), fun c => ?_⟩
          have := Classical.choose_spec (ih c 0 (fun _ => undef) (fun j hj => absurd hj (Nat.not_lt_zero _)))
          exact ⟨this.1, this.2.1⟩
        obtain ⟨f, hf⟩ := this
        refine ⟨(true, 0, 0), (List.range m).map f, by simp, ⟨Nat.le_refl _, Nat.zero_le _, fun _ => rfl⟩, fun c col hc => ?_, none, rfl, rfl, fun _ => rfl, fun a ha => (by cases ha), fun _ _ => undef, fun a ha => (by cases ha), fun j hj => absurd hj (Nat.not_lt_zero _)⟩
        have hcm : c < m := by simpa using (List.getElem?_eq_some_iff.1 hc).1
        simp only [List.getElem?_map, List.getElem?_range hcm, Option.map_some, Option.some.injEq] at hc
        subst hc
        exact ⟨(hf c).2, (hf c).1⟩
      | sl _ _ a len cap zf h1 h2 hsp hz hc =>
        have : ∃ f : Nat → Col, ∀ c, c < m → ColFact (ks c) (f c) ∧ (f c).len = len ∧ ∀ j, j < len → ColRel ⟨w.heap.size, gl⟩ w (f c) j (zf j c) := by
          refine ⟨fun c => if hcm : c < m then Classical.choose (ih c len (fun j => zf j c) (fun j hj => hc j hj c hcm)) else .cb [], fun c hcm => ?_⟩
          simp only [dif_pos hcm]
          exact Classical.choose_spec (ih c len (fun j => zf j c) (fun j hj => hc j hj c hcm))
        obtain ⟨f, hf⟩ := this
        have hget : ∀ (c : Nat) (col : Col), ((List.range m).map f)[c]? = some col → c < m ∧ col = f c := by
          intro c col hcol
          have hcm : c < m := by simpa using (List.getElem?_eq_some_iff.1 hcol).1
          simp only [List.getElem?_map, List.getElem?_range hcm, Option.map_some, Option.some.injEq] at hcol
          exact ⟨hcm, hcol.symm⟩
        refine ⟨(false, len, cap), (List.range m).map f, by simp, ⟨h1, h2, fun e => (by cases e)⟩, fun c col hcol => ?_, some a, rfl, rfl, fun e => (by cases e), fun b hb hp => (by cases hb; exact hsp hp), zf, fun b hb j hj c col hcol => ?_, fun j hj c col hcol => ?_⟩
        · obtain ⟨hcm, rfl⟩ := hget c col hcol
          exact ⟨(hf c hcm).2.1, (hf c hcm).1⟩
        · cases hb
          obtain ⟨hcm, rfl⟩ := hget c col hcol
          simpa using hz j hj c hcm
        · obtain ⟨hcm, rfl⟩ := hget c col hcol
          exact (hf c hcm).2.2 j hj
    have : ∃ (e : Nat → Bool × Nat × Nat) (sub : Nat → List Col), ∀ j, RowAt gl w m ks (if j < n then z j else .slice none 0 0) (e j) (sub j) := by
      have h' : ∀ j, CellOk w (.sl m ks) (if j < n then z j else .slice none 0 0) := fun j => by
        split
        · rename_i hj; exact h j hj
        · exact .slnil m ks
      refine ⟨fun j => Classical.choose (one _ (h' j)), fun j => Classical.choose (Classical.choose_spec (one _ (h' j))), fun j => ?_⟩
      exact Classical.choose_spec (Classical.choose_spec (one _ (h' j)))
    obtain ⟨e, sub, hes⟩ := this
    have hlen : ((List.range n).map e).length = n := by simp
    have hget : ∀ j, ((List.range n).map e).getD j hd0 = if j < n then e j else hd0 := fun j => by
      split
      · rename_i hj; exact range_getD e hd0 hj
      · rename_i hj; rw [List.getD_eq_getElem?_getD, List.getElem?_eq_none (by simpa using hj)]; rfl
    have hzero : ∀ j, ¬ j < n → (e j).2.1 = 0 := fun j hj => by
      obtain ⟨_, _, _, A, h4, _⟩ := hes j
      rw [if_neg hj] at h4
      injection h4 with _ h4 _
      exact h4.symm
    refine ⟨.cl ((List.range n).map e) sub, .sl m ks _ sub (fun j => (hes j).1) (fun j => ?_) (fun j c col hc => ?_) (fun j c col hc => ((hes j).2.2.1 c col hc).2), by simp [Col.len], fun j hj => ?_⟩
    · rw [hget]
      split
      · exact (hes j).2.1
      · exact ⟨Nat.le_refl _, Nat.zero_le _, fun _ => rfl⟩
    · rw [hget]
      split
      · exact ((hes j).2.2.1 c col hc).1
      · rename_i hj
        rw [((hes j).2.2.1 c col hc).1, hzero j hj]
    · obtain ⟨h1, h2, h3, A, h4, h5, h6, h7, zf, h8, h9⟩ := hes j
      rw [if_pos hj] at h4
      rw [h4]
      have e1 := range_getD e hd0 hj
      have := ColRel.cl (N := ⟨w.heap.size, gl⟩) (w := w) ((List.range n).map e) sub j A zf (by rw [e1]; exact fun c col hc => (h3 c col hc).1) (by rw [e1]; exact h2.1) (by rw [e1]; exact h5) (by rw [e1]; exact h6) (by rw [e1]; exact h7) (by rw [e1]; exact h8) (by rw [e1]; exact h9)
      rw [e1] at this
      exact this
end Go.Eng

set_option autoImplicit false
namespace Go.Eng
open Go Go.RowKit

noncomputable abbrev mem0 : Mem := ⟨0, 0, fun _ => .dead⟩
noncomputable def putCol (col : Col) (M : Mem) : AV × Mem :=
  match col with
  | .ci k l => (.i k (l.getD 0 0), M)
  | .cs l => (.s (l.getD 0 ByteArray.empty), M)
  | .cb l => (.b (l.getD 0 false), M)
  | .cf k l => (.v (.float k (l.getD 0 0)), M)
  | .cl h sub => (.sl M.next 0 (h.getD 0 hd0).2.1 (some (h.getD 0 hd0).2.2), M.new (.ro (h.getD 0 hd0).1 (h.getD 0 hd0).2.1 (sub 0)))
theorem putCol_eq (col : Col) (M : Mem) : colGet M 0 col = .ret (putCol col M) := by cases col <;> rfl
noncomputable def putCols : List Col → Mem → List AV × Mem
  | [], M => ([], M)
  | c :: cs, M => ((putCol c M).1 :: (putCols cs (putCol c M).2).1, (putCols cs (putCol c M).2).2)
theorem putCols_ok {N : NB} {w : World} (cols : List Col) : ∀ {cs : List Value} {φ : Phi} {M : Mem}, Rep N φ M w → cols.length = cs.length → (∀ (i : Nat) (col : Col) (v : Value), cols[i]? = some col → cs[i]? = some v → ColRel N w col 0 v) →
    ∃ φ', PhiLe φ φ' ∧ Rep N φ' (putCols cols M).2 w ∧ AVsRel φ' (putCols cols M).1 cs := by
  induction cols with
  | nil =>
    intro cs φ M hr hl h
    cases cs with
    | nil => exact ⟨φ, .refl _, hr, .nil⟩
    | cons => simp at hl
  | cons c cols ih =>
    intro cs φ M hr hl h
    cases cs with
    | nil => simp at hl
    | cons v cs =>
      obtain ⟨φ1, x, M1, hq, hx, hr1, he1⟩ := colGet_ok (Q := fun y => y = putCol c M) (Qp := fun _ _ => False) hr (h 0 c v rfl rfl) (by rw [putCol_eq]; rfl)
      obtain ⟨φ2, hle, hr2, hxs⟩ := ih (M := (putCol c M).2) (by rw [← hq]; exact hr1) (by simpa using hl) (fun i col v hc hv => h (i + 1) col v (by simpa using hc) (by simpa using hv))
      refine ⟨φ2, he1.phi.trans hle, hr2, .cons ?_ hxs⟩
      have hx1 : x = (putCol c M).1 := congrArg Prod.fst hq
      rw [← hx1]
      exact hx.mono hle
/-- The memory in which a law starts. -/
noncomputable def argMem (cols : List Col) : Mem := ⟨(putCols cols mem0).2.next, (putCols cols mem0).2.next, (putCols cols mem0).2.get⟩
noncomputable def argVals (cols : List Col) : List AV := (putCols cols mem0).1
theorem rep0 {gl : Nat → Nat → Option Value} {w : World} (hg : Glob ⟨w.heap.size, gl⟩ w) : Rep ⟨w.heap.size, gl⟩ (fun _ => none) mem0 w :=
  ⟨fun id => hg, fun id id' p p' h => h.elim, fun id p h => h.elim, fun id _ => ⟨rfl, rfl⟩, Nat.le_refl _⟩
theorem Rep.lock {N : NB} {φ : Phi} {M : Mem} {w : World} (h : Rep N φ M w) (l : Nat) : Rep N φ ⟨M.next, l, M.get⟩ w := ⟨h.objs, h.sep, h.high, h.fresh, h.size⟩

/-- Columns that fit kinds, one row each. -/
def FitCols (ks : List SK) (cols : List Col) : Prop := cols.length = ks.length ∧ ∀ (c : Nat) (k : SK) (col : Col), ks[c]? = some k → cols[c]? = some col → ColFact k col ∧ col.len = 1
theorem fit_ex {gl : Nat → Nat → Option Value} {w : World} (ks : List SK) : ∀ (cs : List Value), CellsOk w ks cs → ∃ cols, FitCols ks cols ∧ ∀ (i : Nat) (col : Col) (v : Value), cols[i]? = some col → cs[i]? = some v → ColRel ⟨w.heap.size, gl⟩ w col 0 v := by
  induction ks with
  | nil =>
    intro cs h
    exact ⟨[], ⟨rfl, fun c k col hk => by simp at hk⟩, fun i col v hc => by simp at hc⟩
  | cons k ks ih =>
    intro cs h
    obtain ⟨h1, h2⟩ := h
    cases cs with
    | nil => simp at h1
    | cons v cs =>
      obtain ⟨cols, ⟨hl, hf⟩, hr⟩ := ih cs ⟨by simpa using h1, fun c k' v' hk hv => h2 (c + 1) k' v' (by simpa using hk) (by simpa using hv)⟩
      obtain ⟨col, hcf, hcl, hcr⟩ := col_ex (gl := gl) (w := w) k 1 (fun _ => v) (fun j hj => h2 0 k v rfl rfl)
      refine ⟨col :: cols, ⟨by simp [hl], fun c k' col' hk hc => ?_⟩, fun i col' v' hc hv => ?_⟩
      · cases c with
        | zero => simp at hk hc; subst hk; subst hc; exact ⟨hcf, hcl⟩
        | succ c => exact hf c k' col' (by simpa using hk) (by simpa using hc)
      · cases i with
        | zero => simp at hc hv; subst hc; subst hv; exact hcr 0 (by omega)
        | succ i => exact hr i col' v' (by simpa using hc) (by simpa using hv)

theorem law_callsG {gl : Nat → Nat → Option Value} {Hh : Type} {enc : TypeId × Value → Hh} {P : Program} {tt : TT} (tok : TTok P tt) {S : Nat → Option (List AV → Mem → T (AV × Mem))} {F : Nat → Option FI} (hF : FOk P F) (hmix : P.follows .mixedOrders = true) {L d : Nat} {f : FuncId} {t : TypeId}
    {ks : List SK} {g : Nat} (hsh : shapeL P g t = some ks) {W : World} (hgl : Glob ⟨W.heap.size, gl⟩ W) (hS : SOk P ⟨W.heap.size, gl⟩ S) {sp : Nat → Bool} {held : Bool} {v : Value} {dd : DataW Hh} {p : List MemPlace} (ht : DataW.Trod enc P W 0 sp held t v dd p)
    {arg : List AV → AV} (harg : ∀ φ l, AVsRel φ l v.cells.toList → AVRel φ (arg l) v)
    (law : ∀ cols, FitCols ks cols → H (evFun P tt S F L d f [arg (argVals cols)] (argMem cols)) (fun x => x.1 = .b true) (fun _ _ => False)) (hSf : S f = none := by kernel_rfl) :
    Calls P f #[v] W fun e W' => e = .returned (.bool true) ∧ Below W.heap.size W W' := by
  obtain ⟨fuel, htr⟩ := ht
  have hcells := trod_cells fuel htr hsh
  obtain ⟨cols, hfit, hrel⟩ := fit_ex (gl := gl) ks v.cells.toList hcells
  obtain ⟨φ, _, hr, hx⟩ := putCols_ok cols (rep0 hgl) (by rw [hfit.1, hcells.1]) hrel
  obtain ⟨_, hc⟩ := evFun_okA tok hS hF hmix d hSf [arg (argVals cols)] (argMem cols) _ _ (law cols hfit).out
  have := hc φ W [v] (hr.lock _) (.cons (harg φ _ hx) .nil)
  refine this.mono fun e W' h => ?_
  rcases h with ⟨u, rfl, φ', x, M', hq, hxv, hr', he⟩ | ⟨u, rfl, φ', x, M', hq, _⟩
  · have hq : x = .b true := hq
    subst hq
    cases hxv
    exact ⟨rfl, he.below (hr.lock _)⟩
  · exact hq.elim
abbrev noGl : Nat → Nat → Option Value := fun _ _ => none
theorem glob_no (w : World) : Glob ⟨w.heap.size, noGl⟩ w := fun _ _ _ h => by cases h
theorem law_calls {Hh : Type} {enc : TypeId × Value → Hh} {P : Program} {tt : TT} (tok : TTok P tt) {S : Nat → Option (List AV → Mem → T (AV × Mem))} {F : Nat → Option FI} (hF : FOk P F) (hmix : P.follows .mixedOrders = true) {L d : Nat} {f : FuncId} {t : TypeId}
    {ks : List SK} {g : Nat} (hsh : shapeL P g t = some ks) {W : World} (hS : SOk P ⟨W.heap.size, noGl⟩ S) {sp : Nat → Bool} {held : Bool} {v : Value} {dd : DataW Hh} {p : List MemPlace} (ht : DataW.Trod enc P W 0 sp held t v dd p)
    {arg : List AV → AV} (harg : ∀ φ l, AVsRel φ l v.cells.toList → AVRel φ (arg l) v)
    (law : ∀ cols, FitCols ks cols → H (evFun P tt S F L d f [arg (argVals cols)] (argMem cols)) (fun x => x.1 = .b true) (fun _ _ => False)) (hSf : S f = none := by kernel_rfl) :
    Calls P f #[v] W fun e W' => e = .returned (.bool true) ∧ Below W.heap.size W W' :=
  law_callsG tok hF hmix hsh (glob_no W) hS ht harg law hSf
end Go.Eng

set_option autoImplicit false
namespace Go.Eng
open Go Go.RowKit

/-- Two parts of code. -/
theorem seq_H {P : Program} {tt : TT} {callF : FuncId → List AV → Mem → T (AV × Mem)} {roots : List AV} {keep : Keep} {L big : Nat} {a b : Code} {Q : Res → Prop} {Qp : AV → Mem → Prop} {st : Tmps} {M : Mem}
    (h : H (evCode P tt callF roots keep L big a st M) (fun r => H (onX r (evCode P tt callF roots keep L big b) fun j => .ret (.exit j, r.2)) Q Qp) Qp) : H (evCode P tt callF roots keep L big (.seq a b) st M) Q Qp := H.bind h
theorem block_H {P : Program} {tt : TT} {callF : FuncId → List AV → Mem → T (AV × Mem)} {roots : List AV} {keep : Keep} {L big : Nat} {id : Nat} {a : Code} {Q : Res → Prop} {Qp : AV → Mem → Prop} {st : Tmps} {M : Mem}
    (h : H (evCode P tt callF roots keep L big a st M) (fun r => H (onX r (fun st M => .ret (.normal, st, M)) fun j => bif2 (Nat.beq j id) (.ret (.normal, r.2)) (.ret (.exit j, r.2))) Q Qp) Qp) : H (evCode P tt callF roots keep L big (.block id a) st M) Q Qp := H.bind h
end Go.Eng

set_option autoImplicit false
namespace Go.Eng
open Go Go.RowKit

/-! ## Contracts of plain values -/
def plain0 : AV → Bool
  | .i _ _ => true
  | .b _ => true
  | .s _ => true
  | .v _ => true
  | _ => false
def plain1 : AV → Bool
  | .agg l => l.all plain0
  | x => plain0 x
def plainA : AV → Bool
  | .tup l => l.all plain1
  | x => plain1 x
theorem plain0_rel {φ φ' : Phi} {x : AV} {v : Value} (hp : plain0 x = true) (h : AVRel φ x v) : AVRel φ' x v := by
  cases h <;> first | exact .i _ _ | exact .b _ | exact .s _ | exact .v _ | cases hp
theorem plain0s_rel {φ φ' : Phi} (l : List AV) : ∀ {m : List Value}, l.all plain0 = true → AVsRel φ l m → AVsRel φ' l m := by
  induction l with
  | nil => intro m _ h; cases h; exact .nil
  | cons x l ih =>
    intro m hp h
    obtain ⟨h1, h2⟩ := Bool.and_eq_true_iff.1 (show (plain0 x && l.all plain0) = true from hp)
    cases h with | cons h t => exact .cons (plain0_rel h1 h) (ih h2 t)
theorem plain1_rel {φ φ' : Phi} {x : AV} {v : Value} (hp : plain1 x = true) (h : AVRel φ x v) : AVRel φ' x v := by
  cases h with
  | agg l a h => exact .agg l a (plain0s_rel l hp h)
  | i => exact .i _ _
  | b => exact .b _
  | s => exact .s _
  | v => exact .v _
  | _ => cases hp
theorem plain1s_rel {φ φ' : Phi} (l : List AV) : ∀ {m : List Value}, l.all plain1 = true → AVsRel φ l m → AVsRel φ' l m := by
  induction l with
  | nil => intro m _ h; cases h; exact .nil
  | cons x l ih =>
    intro m hp h
    obtain ⟨h1, h2⟩ := Bool.and_eq_true_iff.1 (show (plain1 x && l.all plain1) = true from hp)
    cases h with | cons h t => exact .cons (plain1_rel h1 h) (ih h2 t)
theorem plainA_rel {φ φ' : Phi} {x : AV} {v : Value} (hp : plainA x = true) (h : AVRel φ x v) : AVRel φ' x v := by
  cases h with
  | tup l a h => exact .tup l a (plain1s_rel l hp h)
  | agg l a h => exact .agg l a (plain0s_rel l hp h)
  | i => exact .i _ _
  | b => exact .b _
  | s => exact .s _
  | v => exact .v _
  | _ => cases hp

/-- What a call leaves as it was, of a memory that it isn't told. -/
theorem frame0 {N : NB} {φ φ' : Phi} {M M' : Mem} {w w' : World} (hr : Rep N φ M w) (he : Ext (fun _ => none) mem0 w φ' M' w') : Rep N φ M w' ∧ Ext φ M w φ M w' := by
  have hk : ∀ b, b < w.heap.size → w'.heap[b]? = w.heap[b]? := fun b hb => he.keep b hb fun id p _ ho => ho.elim
  refine ⟨⟨fun id => (hr.objs id).step (.refl _) (fun b hb => hk b (Nat.lt_of_lt_of_le hb hr.size)) (fun ho p hp => hk _ (hr.lt id p ho hp)), hr.sep, hr.high, hr.fresh, Nat.le_trans hr.size he.size⟩,
    ⟨.refl _, fun _ _ => rfl, Nat.le_refl _, rfl, he.os, he.tape, he.output, he.size, fun b hb _ => hk b hb, fun id p h1 h2 _ => ⟨id, p, h1, h2, rfl, fun h => h⟩⟩⟩

theorem Option_orElse_sOk {P : Program} {N : NB} {S1 S2 : Nat → Option (List AV → Mem → T (AV × Mem))} (h1 : SOk P N S1) (h2 : SOk P N S2) : SOk P N (fun f => match S1 f with | some s => some s | none => S2 f) := by
  intro f s hs
  cases e : S1 f with
  | some s' => simp only [e] at hs; cases hs; exact h1 f _ e
  | none => simp only [e] at hs; exact h2 f s hs
end Go.Eng

set_option autoImplicit false
namespace Go.Eng
open Go Go.RowKit

/-! ## What a tree comes to, along the ways that are told -/
noncomputable def T.runV {α β : Type} (f : α → β) (x : T α) : Option β :=
  @T.rec α (fun _ => Option β) (fun a => some (f a)) (fun b _ _ t e => @Bool.rec (fun _ => Option β) e t b) (fun _ _ => none) (fun b _ t => @Bool.rec (fun _ => Option β) none t b) none x
theorem T.runV_holds {α β : Type} {f : α → β} {b : β} {Qp : AV → Mem → Prop} (x : T α) (h : x.runV f = some b) : x.holds (fun a => f a = b) Qp := by
  induction x with
  | ret a => exact Option.some.inj h
  | br c t e iht ihe =>
    cases c with
    | true => exact ⟨fun _ => iht h, fun h => by cases h⟩
    | false => exact ⟨fun h => by (cases h), fun _ => ihe h⟩
  | pan => cases h
  | ck c t ih =>
    cases c with
    | true => exact ⟨rfl, ih h⟩
    | false => cases h
  | fail => cases h
theorem H.run {α β : Type} {x : T α} {f : α → β} {v : Option β} {Q : β → Prop} {Qp : AV → Mem → Prop} (h : x.runV f = v) (hq : ∃ b, v = some b ∧ Q b) : H x (fun a => Q (f a)) Qp := by
  obtain ⟨b, hb, hq⟩ := hq
  refine ⟨T.holds_mono (T.runV_holds x (h.trans hb)) (fun a (ha : f a = b) => ?_) fun _ _ h => h⟩
  show Q (f a)
  rw [ha]; exact hq
/-- The contract of a function of plain values, as a tree. -/
noncomputable def treeS (g : List AV → T AV) : List AV → Mem → T (AV × Mem) := fun args M => (T.nopan (g args)).bind fun v => .ret (v, M)
theorem sOk_ctr {P : Program} {tt : TT} (tok : TTok P tt) {F : Nat → Option FI} (hF : FOk P F) (hmix : P.follows .mixedOrders = true) {N : NB} {S R : Nat → Option (List AV → Mem → T (AV × Mem))} (h0 : SOk P N S) (hR : SOk P N R) {L d n : Nat}
    {g : List AV → T AV} (h : ∀ args Q, (g args).holds Q (fun _ _ => False) → args.all plain1 = true ∧ H (evFun P tt S F L d n args mem0) (fun x => plainA x.1 = true ∧ Q x.1) (fun _ _ => False)) (hSn : S n = none := by kernel_rfl) :
    SOk P N (fun f => bif2 (Nat.beq f n) (some (treeS g)) (R f)) := by
  intro f s hs args M Q Qp hq
  simp only [bif2_eq] at hs
  split at hs
  · rename_i hf
    obtain rfl : f = n := Nat.eq_of_beq_eq_true hf
    cases hs
    have hq' : (g args).holds (fun v => Q (v, M)) (fun _ _ => False) := by
      unfold treeS at hq
      rw [T.holds_bind] at hq
      exact T.nopan_ok hq
    obtain ⟨h1, h3⟩ := h args _ hq'
    obtain ⟨k1, k2⟩ := evFun_okA tok h0 hF hmix d hSn args mem0 _ _ h3.out
    refine .inl ⟨k1, fun φ w zs hr hz => ?_⟩
    have hr0 : Rep N (fun _ => none) mem0 w := ⟨fun id => hr.glob, fun id id' p p' h => h.elim, fun id p h => h.elim, fun id _ => ⟨rfl, rfl⟩, hr.size⟩
    refine (k2 _ w zs hr0 (plain1s_rel args h1 hz)).mono fun e w' he => ?_
    rcases he with ⟨u, rfl, φ', x, M', hx, hxu, hr', he⟩ | ⟨u, rfl, φ', x, M', hx, _⟩
    · obtain ⟨a, b⟩ := frame0 hr he
      exact .inl ⟨u, rfl, φ, x, M, hx.2, plainA_rel hx.1 hxu, a, b⟩
    · exact hx.elim
  · exact hR f s hs args M Q Qp hq
/-- A function that has no code, of plain values. -/
theorem sOk_ext {P : Program} {N : NB} {R : Nat → Option (List AV → Mem → T (AV × Mem))} (hR : SOk P N R) {n : Nat} {fn : Func} {e : Array Value → Sem Value} (hf : P.funcs[n]? = some fn) (hname : (fn.name == "runtime.NumGoroutine") = false)
    (hb : fn.body.isNone = true) (hn : Extern.findNext fn = none) (he : Extern.find fn = some e) {g : List AV → T AV}
    (h : ∀ args Q, (g args).holds Q (fun _ _ => False) → ∀ φ zs, AVsRel φ args zs → ∀ w, ∃ v x, (e zs.toArray).run P w = .ok v w ∧ Q x ∧ AVRel φ x v) :
    SOk P N (fun f => bif2 (Nat.beq f n) (some (treeS g)) (R f)) := by
  intro f s hs args M Q Qp hq
  simp only [bif2_eq] at hs
  split at hs
  · rename_i hfn
    obtain rfl : f = n := Nat.eq_of_beq_eq_true hfn
    cases hs
    have hq' : (g args).holds (fun v => Q (v, M)) (fun _ _ => False) := by
      unfold treeS at hq
      rw [T.holds_bind] at hq
      exact T.nopan_ok hq
    refine .inr fun φ w zs hr hz => ?_
    obtain ⟨v, x, h1, h2, h3⟩ := h args _ hq' φ zs hz w
    exact ⟨v, w, by rw [run_callFunc_extern hf hname hb hn he, h1]; rfl, .here hr h2 h3⟩
  · exact hR f s hs args M Q Qp hq
end Go.Eng

set_option autoImplicit false
namespace Go.Eng
open Go Go.RowKit

/-! ## Loops: from head to head -/
abbrev St3 := List AV × Nat × List AObj
/-- The path of a loop; the objects that were there ahead of it; what its head is told. -/
abbrev Stop := List Nat × Nat × St3
noncomputable def headV (base : Nat) (roots : List AV) (keep : Keep) (st : Tmps) (M : Mem) : T St3 :=
  compactU base (roots ++ mapL (keepOnly keep.l st) keep.l) M fun f M => .ret (mapL (fun t => f (keepOnly keep.l st t)) keep.l, M.lock, mapL M.get (iota M.next))
theorem headV_bind {base : Nat} {roots : List AV} {keep : Keep} {st : Tmps} {M : Mem} (hz : keep.z = false) (k : Tmps → Mem → T Res) :
    headF base roots keep st M k = (headV base roots keep st M).bind fun s => k (cst keep.l s.1) (memL s.2.1 s.2.2) := by
  unfold headF headV
  rw [hz, bif2_eq, if_neg Bool.false_ne_true]
  unfold compactU
  generalize Nat.beq M.next base = b
  cases b <;> rfl
theorem headV_leaf {base : Nat} {roots : List AV} {keep : Keep} {st : Tmps} {M : Mem} {Q : St3 → Prop} {Qp : AV → Mem → Prop} (h : (headV base roots keep st M).holds Q Qp) : (headV base roots keep st M).holds Q (fun _ _ => False) := by
  unfold headV at h ⊢
  unfold compactU at h ⊢
  rw [bif2_eq] at h ⊢
  split
  · rename_i e; rw [if_pos e] at h; exact h
  · rename_i e; rw [if_neg e] at h; exact h
theorem T.bind_assoc {α β γ : Type} (x : T α) (f : α → T β) (g : β → T γ) : (x.bind f).bind g = x.bind fun a => (f a).bind g := by
  induction x with
  | ret a => rfl
  | br b t e iht ihe => show T.br b ((t.bind f).bind g) ((e.bind f).bind g) = T.br b (t.bind fun a => (f a).bind g) (e.bind fun a => (f a).bind g); rw [iht, ihe]
  | pan x M => rfl
  | ck b t ih => show T.ck b ((t.bind f).bind g) = T.ck b (t.bind fun a => (f a).bind g); rw [ih]
  | fail => rfl
theorem T.bind_ret {α : Type} (x : T α) : x.bind .ret = x := by
  induction x with
  | ret a => rfl
  | br b t e iht ihe => show T.br b (t.bind .ret) (e.bind .ret) = _; rw [iht, ihe]
  | pan x M => rfl
  | ck b t ih => show T.ck b (t.bind .ret) = _; rw [ih]
  | fail => rfl
theorem H.of_bind {α β : Type} {x : T α} {f : α → T β} {Q : β → Prop} {Qp : AV → Mem → Prop} (h : H (x.bind f) Q Qp) : H x (fun a => H (f a) Q Qp) Qp := ⟨by
  have := h.out
  rw [T.holds_bind] at this
  exact T.holds_mono this (fun _ h => ⟨h⟩) fun _ _ h => h⟩

section
variable (P : Program) (tt : TT) (callF : FuncId → List AV → Mem → T (AV × Mem)) (roots : List AV) (keep : Keep) (L big : Nat)

/-- What follows part 'a' of a sequence. -/
noncomputable def seqK {α : Type} (b : Code) (K : Res → T α) : Res → T α := fun r => (onX r (evCode P tt callF roots keep L big b) fun j => .ret (.exit j, r.2)).bind K
noncomputable def blockK {α : Type} (id : Nat) (K : Res → T α) : Res → T α := fun r => (onX r (fun st M => .ret (.normal, st, M)) fun j => bif2 (Nat.beq j id) (.ret (.normal, r.2)) (.ret (.exit j, r.2))).bind K
/-- What is behind the head of a loop; all that is told of its begin is what its head is told. -/
def LoopGo {α : Type} (c : Code) (base : Nat) (s : St3) (K : Res → T α) (Q : α → Prop) (Qp : AV → Mem → Prop) : Prop :=
  ∀ st M, M.next = base → (headV base roots keep st M).holds (· = s) (fun _ _ => False) → H ((evCode P tt callF roots keep L big (.loop c) st M).bind K) Q Qp
def loopAt : Code → List Nat → Option Code
  | .loop c, [] => some c
  | .seq a _, 0 :: p => loopAt a p
  | .seq _ b, 1 :: p => loopAt b p
  | .cond _ a _, 0 :: p => loopAt a p
  | .cond _ _ b, 1 :: p => loopAt b p
  | .block _ a, 0 :: p => loopAt a p
  | _, _ => none
/-- What follows a loop. -/
noncomputable def contK {α : Type} : Code → List Nat → (Res → T α) → Res → T α
  | .loop _, [], K => K
  | .seq a b, 0 :: p, K => contK a p (seqK P tt callF roots keep L big b K)
  | .seq _ b, 1 :: p, K => contK b p K
  | .cond _ a _, 0 :: p, K => contK a p K
  | .cond _ _ b, 1 :: p, K => contK b p K
  | .block id a, 0 :: p, K => contK a p (blockK id K)
  | _, _, _ => fun _ => .fail
/-- Up to the next loop's head. -/
noncomputable def evS {α : Type} (pre : List Nat) (c : Code) : Tmps → Mem → (Res → T (α ⊕ Stop)) → T (α ⊕ Stop) :=
  @Code.rec (fun _ => List Nat → Tmps → Mem → (Res → T (α ⊕ Stop)) → T (α ⊕ Stop))
    (fun _ st M K => K (.normal, st, M))
    (fun id ops draw _ st M K => (evCode P tt callF roots keep L big (.region id ops draw) st M).bind K)
    (fun _ _ iha ihb pre st M K => iha (0 :: pre) st M fun r => @X.casesOn (fun _ => T (α ⊕ Stop)) r.1 (ihb (1 :: pre) r.2.1 r.2.2 K) (fun j => K (.exit j, r.2)) (K (.ret, r.2)))
    (fun c _ _ iht ihe pre st M K => onB (evA st c) fun b => .br b (iht (0 :: pre) (setB c true st) M K) (ihe (1 :: pre) (setB c false st) M K))
    (fun id _ ih pre st M K => ih (0 :: pre) st M fun r => @X.casesOn (fun _ => T (α ⊕ Stop)) r.1 (K (.normal, r.2)) (fun j => bif2 (Nat.beq j id) (K (.normal, r.2)) (K (.exit j, r.2))) (K (.ret, r.2)))
    (fun _ _ pre st M _ => (headV M.next roots keep st M).bind fun s => .ret (.inr (pre, M.next, s)))
    (fun _ _ _ _ _ _ _ _ _ _ => .fail)
    (fun id _ st M K => K (.exit id, st, M))
    (fun _ _ _ _ _ _ => .fail)
    (fun _ _ _ _ _ => .fail)
    (fun _ _ _ _ _ => .fail)
    (fun _ st M K => K (.ret, st, M))
    (fun _ _ _ _ _ => .fail)
    c pre
/-- What follows a loop, up to the next loop's head. -/
noncomputable def contR {α : Type} : Code → List Nat → List Nat → (Res → T (α ⊕ Stop)) → Res → T (α ⊕ Stop)
  | .loop _, [], _, K => K
  | .seq a b, 0 :: p, pre, K => contR a p (0 :: pre) fun r => @X.casesOn (fun _ => T (α ⊕ Stop)) r.1 (evS (α := α) P tt callF roots keep L big (1 :: pre) b r.2.1 r.2.2 K) (fun j => K (.exit j, r.2)) (K (.ret, r.2))
  | .seq _ b, 1 :: p, pre, K => contR b p (1 :: pre) K
  | .cond _ a _, 0 :: p, pre, K => contR a p (0 :: pre) K
  | .cond _ _ b, 1 :: p, pre, K => contR b p (1 :: pre) K
  | .block id a, 0 :: p, pre, K => contR a p (0 :: pre) fun r => @X.casesOn (fun _ => T (α ⊕ Stop)) r.1 (K (.normal, r.2)) (fun j => bif2 (Nat.beq j id) (K (.normal, r.2)) (K (.exit j, r.2))) (K (.ret, r.2))
  | _, _, _, _ => fun _ => .fail
end

section
variable {P : Program} {tt : TT} {callF : FuncId → List AV → Mem → T (AV × Mem)} {roots : List AV} {keep : Keep} {L big : Nat}

/-- What is asked of the end, or of the next stop. -/
def OkY {α : Type} (Q : α → Prop) (G : Stop → Prop) : α ⊕ Stop → Prop := fun y => match y with
  | .inl a => Q a
  | .inr s => G s
theorem onX_K {α : Type} {r : Res} {f : Tmps → Mem → T Res} {e : Nat → T Res} {K : Res → T α} {Q : α → Prop} {Qp : AV → Mem → Prop}
    (h : H (@X.casesOn (fun _ => T α) r.1 ((f r.2.1 r.2.2).bind K) (fun j => (e j).bind K) (K (.ret, r.2))) Q Qp) : H ((onX r f e).bind K) Q Qp := by
  obtain ⟨x, st, M⟩ := r
  cases x <;> exact h

theorem evS_ok {α : Type} {Q : α → Prop} {Qp : AV → Mem → Prop} {G : Stop → Prop} (c : Code) : ∀ {pre : List Nat} {st : Tmps} {M : Mem} {K : Res → T α} {KR : Res → T (α ⊕ Stop)}
    (_ : ∀ r, H (KR r) (OkY Q G) Qp → H (K r) Q Qp)
    (_ : ∀ p base s, G (p ++ pre, base, s) → ∃ l, loopAt c p.reverse = some l ∧ LoopGo P tt callF roots keep L big l base s (contK P tt callF roots keep L big c p.reverse K) Q Qp)
    (_ : H (evS P tt callF roots keep L big pre c st M KR) (OkY Q G) Qp), H ((evCode P tt callF roots keep L big c st M).bind K) Q Qp := by
  induction c with
  | skip => intro pre st M K KR hK _ h; exact hK _ h
  | region id ops draw =>
    intro pre st M K KR hK _ h
    have h : H ((evCode P tt callF roots keep L big (.region id ops draw) st M).bind KR) (OkY Q G) Qp := h
    exact H.bind ((H.of_bind h).mono hK)
  | seq a b iha ihb =>
    intro pre st M K KR hK hG h
    have e : (evCode P tt callF roots keep L big (.seq a b) st M).bind K = (evCode P tt callF roots keep L big a st M).bind (seqK P tt callF roots keep L big b K) := T.bind_assoc _ _ _
    rw [e]
    refine iha (pre := 0 :: pre) (KR := fun r => @X.casesOn (fun _ => T (α ⊕ Stop)) r.1 (evS P tt callF roots keep L big (1 :: pre) b r.2.1 r.2.2 KR) (fun j => KR (.exit j, r.2)) (KR (.ret, r.2))) ?_ ?_ h
    · intro r hr
      refine onX_K ?_
      obtain ⟨x, st, M⟩ := r
      cases x with
      | normal =>
        refine ihb (pre := 1 :: pre) hK ?_ hr
        intro p base s hg
        have := hG (p ++ [1]) base s (by simpa using hg)
        simpa [loopAt, contK] using this
      | exit j => exact hK _ hr
      | ret => exact hK _ hr
    · intro p base s hg
      have := hG (p ++ [0]) base s (by simpa using hg)
      simpa [loopAt, contK] using this
  | cond o a b iha ihb =>
    intro pre st M K KR hK hG h
    have h : H (onB (evA st o) fun t => .br t (evS P tt callF roots keep L big (0 :: pre) a (setB o true st) M KR) (evS P tt callF roots keep L big (1 :: pre) b (setB o false st) M KR)) (OkY Q G) Qp := h
    obtain ⟨t, ht, h⟩ := onB_ok h.out
    have e : evCode P tt callF roots keep L big (.cond o a b) st M = onB (evA st o) fun t => .br t (evCode P tt callF roots keep L big a (setB o true st) M) (evCode P tt callF roots keep L big b (setB o false st) M) := rfl
    rw [e, ht]
    show H (T.br t ((evCode P tt callF roots keep L big a (setB o true st) M).bind K) ((evCode P tt callF roots keep L big b (setB o false st) M).bind K)) Q Qp
    refine H.br (fun e => iha (pre := 0 :: pre) hK ?_ ⟨h.1 e⟩) (fun e => ihb (pre := 1 :: pre) hK ?_ ⟨h.2 e⟩)
    · intro p base s hg
      have := hG (p ++ [0]) base s (by simpa using hg)
      simpa [loopAt, contK] using this
    · intro p base s hg
      have := hG (p ++ [1]) base s (by simpa using hg)
      simpa [loopAt, contK] using this
  | block id a ih =>
    intro pre st M K KR hK hG h
    have e : (evCode P tt callF roots keep L big (.block id a) st M).bind K = (evCode P tt callF roots keep L big a st M).bind (blockK id K) := T.bind_assoc _ _ _
    rw [e]
    refine ih (pre := 0 :: pre) (KR := fun r => @X.casesOn (fun _ => T (α ⊕ Stop)) r.1 (KR (.normal, r.2)) (fun j => bif2 (Nat.beq j id) (KR (.normal, r.2)) (KR (.exit j, r.2))) (KR (.ret, r.2))) ?_ ?_ h
    · intro r hr
      refine onX_K ?_
      obtain ⟨x, st, M⟩ := r
      cases x with
      | normal => exact hK _ hr
      | exit j =>
        have hr : H (bif2 (Nat.beq j id) (KR (.normal, st, M)) (KR (.exit j, st, M))) (OkY Q G) Qp := hr
        show H ((bif2 (Nat.beq j id) (.ret (.normal, st, M)) (.ret (.exit j, st, M)) : T Res).bind K) Q Qp
        rw [bif2_eq] at hr ⊢
        split
        · rename_i e; rw [if_pos e] at hr; exact hK _ hr
        · rename_i e; rw [if_neg e] at hr; exact hK _ hr
      | ret => exact hK _ hr
    · intro p base s hg
      have := hG (p ++ [0]) base s (by simpa using hg)
      simpa [loopAt, contK] using this
  | loop a ih =>
    intro pre st M K KR hK hG h
    have h : H ((headV M.next roots keep st M).bind fun s => .ret (.inr (pre, M.next, s))) (OkY Q G) Qp := h
    obtain ⟨s, hs, hleaf⟩ := T.leaf (headV_leaf (H.of_bind h).out)
    obtain ⟨l, h1, h2⟩ := hG [] M.next s hs.out
    cases h1
    exact h2 st M rfl hleaf
  | exit id => intro pre st M K KR hK _ h; exact hK _ h
  | ret => intro pre st M K KR hK _ h; exact hK _ h
  | _ => intro pre st M K KR hK _ h; exact h.out.elim

theorem contR_ok {α : Type} {Q : α → Prop} {Qp : AV → Mem → Prop} {G : Stop → Prop} (c : Code) : ∀ {pre p : List Nat} {K : Res → T α} {KR : Res → T (α ⊕ Stop)}
    (_ : ∀ r, H (KR r) (OkY Q G) Qp → H (K r) Q Qp)
    (_ : ∀ p base s, G (p ++ pre, base, s) → ∃ l, loopAt c p.reverse = some l ∧ LoopGo P tt callF roots keep L big l base s (contK P tt callF roots keep L big c p.reverse K) Q Qp)
    (r : Res) (_ : H (contR P tt callF roots keep L big c p pre KR r) (OkY Q G) Qp), H (contK P tt callF roots keep L big c p K r) Q Qp := by
  induction c with
  | seq a b iha ihb =>
    intro pre p K KR hK hG r h
    match p with
    | [] => exact h.out.elim
    | 0 :: p =>
      refine iha (pre := 0 :: pre) (K := seqK P tt callF roots keep L big b K) (KR := fun r => @X.casesOn (fun _ => T (α ⊕ Stop)) r.1 (evS P tt callF roots keep L big (1 :: pre) b r.2.1 r.2.2 KR) (fun j => KR (.exit j, r.2)) (KR (.ret, r.2))) ?_ ?_ r h
      · intro r hr
        refine onX_K ?_
        obtain ⟨x, st, M⟩ := r
        cases x with
        | normal =>
          refine evS_ok b (pre := 1 :: pre) hK ?_ hr
          intro p base s hg
          have := hG (p ++ [1]) base s (by simpa using hg)
          simpa [loopAt, contK] using this
        | exit j => exact hK _ hr
        | ret => exact hK _ hr
      · intro p base s hg
        have := hG (p ++ [0]) base s (by simpa using hg)
        simpa [loopAt, contK] using this
    | 1 :: p =>
      refine ihb (pre := 1 :: pre) hK ?_ r h
      intro p base s hg
      have := hG (p ++ [1]) base s (by simpa using hg)
      simpa [loopAt, contK] using this
    | (n + 2) :: p => exact h.out.elim
  | cond o a b iha ihb =>
    intro pre p K KR hK hG r h
    match p with
    | [] => exact h.out.elim
    | 0 :: p =>
      refine iha (pre := 0 :: pre) hK ?_ r h
      intro p base s hg
      have := hG (p ++ [0]) base s (by simpa using hg)
      simpa [loopAt, contK] using this
    | 1 :: p =>
      refine ihb (pre := 1 :: pre) hK ?_ r h
      intro p base s hg
      have := hG (p ++ [1]) base s (by simpa using hg)
      simpa [loopAt, contK] using this
    | (n + 2) :: p => exact h.out.elim
  | block id a ih =>
    intro pre p K KR hK hG r h
    match p with
    | [] => exact h.out.elim
    | 0 :: p =>
      refine ih (pre := 0 :: pre) (K := blockK id K) (KR := fun r => @X.casesOn (fun _ => T (α ⊕ Stop)) r.1 (KR (.normal, r.2)) (fun j => bif2 (Nat.beq j id) (KR (.normal, r.2)) (KR (.exit j, r.2))) (KR (.ret, r.2))) ?_ ?_ r h
      · intro r hr
        refine onX_K ?_
        obtain ⟨x, st, M⟩ := r
        cases x with
        | normal => exact hK _ hr
        | exit j =>
          have hr : H (bif2 (Nat.beq j id) (KR (.normal, st, M)) (KR (.exit j, st, M))) (OkY Q G) Qp := hr
          show H ((bif2 (Nat.beq j id) (.ret (.normal, st, M)) (.ret (.exit j, st, M)) : T Res).bind K) Q Qp
          rw [bif2_eq] at hr ⊢
          split
          · rename_i e; rw [if_pos e] at hr; exact hK _ hr
          · rename_i e; rw [if_neg e] at hr; exact hK _ hr
        | ret => exact hK _ hr
      · intro p base s hg
        have := hG (p ++ [0]) base s (by simpa using hg)
        simpa [loopAt, contK] using this
    | (n + 1) :: p => exact h.out.elim
  | loop a ih =>
    intro pre p K KR hK hG r h
    match p with
    | [] => exact hK _ h
    | n :: p => exact h.out.elim
  | _ => intro pre p K KR hK hG r h; exact h.out.elim

/-- One round: again at the head, or out. -/
noncomputable def stepR {α : Type} (roots : List AV) (keep : Keep) (base : Nat) (K : Res → T α) : Res → T (St3 ⊕ α) := fun r =>
  @X.casesOn (fun _ => T (St3 ⊕ α)) r.1 ((headV base roots keep r.2.1 r.2.2).bind fun s => .ret (.inl s)) (fun j => (K (.exit j, r.2)).bind fun y => .ret (.inr y)) ((K (.ret, r.2)).bind fun y => .ret (.inr y))
def OkS {α : Type} (I : St3 → Prop) (Q : α → Prop) : St3 ⊕ α → Prop := fun y => match y with
  | .inl s => I s
  | .inr a => Q a
theorem loop_go {α : Type} {c : Code} {base : Nat} {K : Res → T α} {Q : α → Prop} {Qp : AV → Mem → Prop} (hz : keep.z = false) (Inv : Nat → St3 → Prop)
    (step : ∀ m s, Inv m s → H ((evCode P tt callF roots keep L big c (cst keep.l s.1) (memL s.2.1 s.2.2)).bind (stepR roots keep base K)) (OkS (fun s' => ∃ m', m' < m ∧ Inv m' s') Q) Qp) :
    ∀ m s, m < L → Inv m s → LoopGo P tt callF roots keep L big c base s K Q Qp := by
  intro m s hmL hi st M hb hs
  refine ⟨?_⟩
  show ((forceN M.next fun base => (@Nat.rec (fun _ => Tmps → Mem → T Res) (fun _ _ => .fail) (fun _ again st M => headF base roots keep st M fun st M => (evCode P tt callF roots keep L big c st M).bind fun r => onX r again fun j => .ret (.exit j, r.2)) L : Tmps → Mem → T Res) st M).bind K).holds Q Qp
  rw [forceN_eq, hb]
  have key : ∀ (k : Nat) (st1 : Tmps) (M1 : Mem), (headV base roots keep st1 M1).holds (fun s => ∃ m, m < k ∧ Inv m s) Qp →
      (((@Nat.rec (fun _ => Tmps → Mem → T Res) (fun _ _ => .fail) (fun _ again st M => headF base roots keep st M fun st M => (evCode P tt callF roots keep L big c st M).bind fun r => onX r again fun j => .ret (.exit j, r.2)) k : Tmps → Mem → T Res) st1 M1).bind K).holds Q Qp := by
    intro k
    induction k with
    | zero => intro st1 M1 h; obtain ⟨s, ⟨m, h, _⟩, _⟩ := T.leaf (headV_leaf h); omega
    | succ k ih =>
      intro st1 M1 h
      show ((headF base roots keep st1 M1 fun st M => (evCode P tt callF roots keep L big c st M).bind fun r => onX r (@Nat.rec (fun _ => Tmps → Mem → T Res) (fun _ _ => .fail) (fun _ again st M => headF base roots keep st M fun st M => (evCode P tt callF roots keep L big c st M).bind fun r => onX r again fun j => .ret (.exit j, r.2)) k) fun j => .ret (.exit j, r.2)).bind K).holds Q Qp
      rw [headV_bind hz, T.bind_assoc, T.holds_bind]
      refine T.holds_mono h (fun s hs => ?_) fun _ _ h => h
      obtain ⟨m, hm, hi⟩ := hs
      rw [T.bind_assoc, T.holds_bind]
      have := (H.of_bind (step m s hi)).out
      refine T.holds_mono this (fun r hr => ?_) fun _ _ h => h
      obtain ⟨x, st', M'⟩ := r
      cases x with
      | normal =>
        refine ih st' M' ?_
        have hr : H ((headV base roots keep st' M').bind fun s => (.ret (.inl s) : T (St3 ⊕ α))) (OkS (fun s' => ∃ m', m' < m ∧ Inv m' s') Q) Qp := hr
        refine T.holds_mono (H.of_bind hr).out (fun s hs => ?_) fun _ _ h => h
        obtain ⟨m', h1, h2⟩ := hs.out
        exact ⟨m', by omega, h2⟩
      | exit j =>
        have hr : H ((K (.exit j, st', M')).bind fun y => (.ret (.inr y) : T (St3 ⊕ α))) (OkS (fun s' => ∃ m', m' < m ∧ Inv m' s') Q) Qp := hr
        exact T.holds_mono (H.of_bind hr).out (fun s hs => hs.out) fun _ _ h => h
      | ret =>
        have hr : H ((K (.ret, st', M')).bind fun y => (.ret (.inr y) : T (St3 ⊕ α))) (OkS (fun s' => ∃ m', m' < m ∧ Inv m' s') Q) Qp := hr
        exact T.holds_mono (H.of_bind hr).out (fun s hs => hs.out) fun _ _ h => h
  exact key L st M (T.holds_mono hs (fun s' e => ⟨m, hmL, by rw [e]; exact hi⟩) fun _ _ h => h.elim)
end
end Go.Eng

set_option autoImplicit false
namespace Go.Eng
open Go Go.RowKit

theorem evFun_open {P : Program} {tt : TT} {S : Nat → Option (List AV → Mem → T (AV × Mem))} {F : Nat → Option FI} {L d : Nat} {f : FuncId} {fi : FI} {args : List AV} {M : Mem} {Q : AV × Mem → Prop} {Qp : AV → Mem → Prop}
    (hS : S f = none) (hF : F f = some fi) (hn : Nat.ble args.length fi.n = true)
    (h : H ((evCode P tt (evFun P tt S F L d) args fi.keep L (Nat.pow 2 (Nat.mul 32 d)) fi.code (argTmps args 0) M).bind (evEnd M.next args tt fi)) Q Qp) :
    H (evFun P tt S F L (d + 1) f args M) Q Qp := by
  refine ⟨?_⟩
  show (@Option.rec (List AV → Mem → T (AV × Mem)) (fun _ => T (AV × Mem)) (onO (F f) fun fi => evBody P tt L (Nat.pow 2 (Nat.mul 32 d)) (evFun P tt S F L d) fi args M) (fun s => s args M) (S f)).holds Q Qp
  rw [hS, hF]
  show (T.br (Nat.ble args.length fi.n) (forceN M.next fun base => (evCode P tt (evFun P tt S F L d) args fi.keep L (Nat.pow 2 (Nat.mul 32 d)) fi.code (argTmps args 0) M).bind (evEnd base args tt fi)) .fail).holds Q Qp
  refine (H.tt hn ⟨?_⟩).out
  rw [forceN_eq]
  exact h.out

/-- A tree's end, as an end of a way. -/
noncomputable def endR {α : Type} (K : Res → T α) : Res → T (α ⊕ Stop) := fun r => (K r).bind fun a => .ret (.inl a)
theorem endR_ok {α : Type} {K : Res → T α} {Q : α → Prop} {Qp : AV → Mem → Prop} {G : Stop → Prop} (r : Res) (h : H (endR K r) (OkY Q G) Qp) : H (K r) Q Qp :=
  (H.of_bind h).mono fun a h => h.out

section
variable {P : Program} {tt : TT} {callF : FuncId → List AV → Mem → T (AV × Mem)} {roots : List AV} {keep : Keep} {L big : Nat}
/-- A loop, with what follows up to the next one. -/
theorem loop_run {α : Type} {c : Code} {base : Nat} {K : Res → T α} {KR : Res → T (α ⊕ Stop)} {Q : α → Prop} {Qp : AV → Mem → Prop} {G : Stop → Prop} (hz : keep.z = false) (Inv : Nat → St3 → Prop)
    (hK : ∀ r, H (KR r) (OkY Q G) Qp → H (K r) Q Qp)
    (step : ∀ m s, Inv m s → H ((evCode P tt callF roots keep L big c (cst keep.l s.1) (memL s.2.1 s.2.2)).bind (stepR roots keep base KR)) (OkS (fun s' => ∃ m', m' < m ∧ Inv m' s') (OkY Q G)) Qp) :
    ∀ m s, m < L → Inv m s → LoopGo P tt callF roots keep L big c base s K Q Qp := by
  refine loop_go hz Inv fun m s hi => ?_
  refine H.bind ((H.of_bind (step m s hi)).mono fun r hr => ?_)
  obtain ⟨x, st, M⟩ := r
  cases x with
  | normal =>
    have hr : H ((headV base roots keep st M).bind fun s => (.ret (.inl s) : T (St3 ⊕ (α ⊕ Stop)))) (OkS (fun s' => ∃ m', m' < m ∧ Inv m' s') (OkY Q G)) Qp := hr
    show H ((headV base roots keep st M).bind fun s => (.ret (.inl s) : T (St3 ⊕ α))) (OkS (fun s' => ∃ m', m' < m ∧ Inv m' s') Q) Qp
    exact H.bind ((H.of_bind hr).mono fun s h => ⟨h.out⟩)
  | exit j =>
    have hr : H ((KR (.exit j, st, M)).bind fun y => (.ret (.inr y) : T (St3 ⊕ (α ⊕ Stop)))) (OkS (fun s' => ∃ m', m' < m ∧ Inv m' s') (OkY Q G)) Qp := hr
    show H ((K (.exit j, st, M)).bind fun y => (.ret (.inr y) : T (St3 ⊕ α))) (OkS (fun s' => ∃ m', m' < m ∧ Inv m' s') Q) Qp
    exact H.bind ((hK _ ((H.of_bind hr).mono fun y h => h.out)).mono fun y h => ⟨h⟩)
  | ret =>
    have hr : H ((KR (.ret, st, M)).bind fun y => (.ret (.inr y) : T (St3 ⊕ (α ⊕ Stop)))) (OkS (fun s' => ∃ m', m' < m ∧ Inv m' s') (OkY Q G)) Qp := hr
    show H ((K (.ret, st, M)).bind fun y => (.ret (.inr y) : T (St3 ⊕ α))) (OkS (fun s' => ∃ m', m' < m ∧ Inv m' s') Q) Qp
    exact H.bind ((hK _ ((H.of_bind hr).mono fun y h => h.out)).mono fun y h => ⟨h⟩)
end
end Go.Eng

set_option autoImplicit false
namespace Go.Eng
open Go Go.RowKit

/-! ## What a column of a shape is -/
def FitN (n : Nat) (ks : List SK) (cols : List Col) : Prop := cols.length = ks.length ∧ ∀ (c : Nat) (k : SK) (col : Col), ks[c]? = some k → cols[c]? = some col → ColFact k col ∧ col.len = n
theorem FitN.cons {n : Nat} {k : SK} {ks : List SK} {cols : List Col} (h : FitN n (k :: ks) cols) : ∃ c cs, cols = c :: cs ∧ ColFact k c ∧ c.len = n ∧ FitN n ks cs := by
  obtain ⟨h1, h2⟩ := h
  cases cols with
  | nil => simp at h1
  | cons c cs =>
    obtain ⟨a, b⟩ := h2 0 k c rfl rfl
    exact ⟨c, cs, rfl, a, b, by simpa using h1, fun i k' c' hk hc => h2 (i + 1) k' c' (by simpa using hk) (by simpa using hc)⟩
theorem FitN.nil {n : Nat} {cols : List Col} (h : FitN n [] cols) : cols = [] := List.length_eq_zero_iff.1 h.1
theorem fit_int {k : IntKind} {c : Col} (h : ColFact (.int k) c) : ∃ l, c = .ci k l ∧ ∀ x ∈ l, (Lit.int k x).wf = true := by
  cases h with
  | int k l h => exact ⟨l, rfl, h⟩
theorem fit_int1 {k : IntKind} {c : Col} (h : ColFact (.int k) c) (h1 : c.len = 1) : ∃ x, c = .ci k [x] ∧ (Lit.int k x).wf = true := by
  obtain ⟨l, rfl, h'⟩ := fit_int h
  match l, h1, h' with
  | [x], _, h' => exact ⟨x, rfl, h' x (by simp)⟩
theorem fit_bool {c : Col} (h : ColFact .bool c) : ∃ l, c = .cb l := by
  cases h with
  | bool l => exact ⟨l, rfl⟩
theorem fit_bool1 {c : Col} (h : ColFact .bool c) (h1 : c.len = 1) : ∃ x, c = .cb [x] := by
  obtain ⟨l, rfl⟩ := fit_bool h
  match l, h1 with
  | [x], _ => exact ⟨x, rfl⟩
theorem fit_str {c : Col} (h : ColFact .str c) : ∃ l, c = .cs l ∧ ∀ x ∈ l, x.size ≤ maxLen := by
  cases h with
  | str l h => exact ⟨l, rfl, h⟩
theorem fit_str1 {c : Col} (h : ColFact .str c) (h1 : c.len = 1) : ∃ x, c = .cs [x] ∧ x.size ≤ maxLen := by
  obtain ⟨l, rfl, h'⟩ := fit_str h
  match l, h1, h' with
  | [x], _, h' => exact ⟨x, rfl, h' x (by simp)⟩
theorem fit_flt {k : FloatKind} {c : Col} (h : ColFact (.flt k) c) : ∃ l, c = .cf k l ∧ ∀ x ∈ l, (Lit.float k x).wf = true := by
  cases h with
  | flt k l h => exact ⟨l, rfl, h⟩
theorem fit_sl {m : Nat} {ks : List SK} {d : SK} {c : Col} (h : ColFact (.sl m fun i => ks.getD i d) c) (hm : m = ks.length) : ∃ hd sub, c = .cl hd sub ∧
    ∀ j, (hd.getD j hd0).2.1 ≤ (hd.getD j hd0).2.2 ∧ (hd.getD j hd0).2.2 ≤ maxLen ∧ ((hd.getD j hd0).1 = true → (hd.getD j hd0).2.1 = 0) ∧ FitN (hd.getD j hd0).2.1 ks (sub j) := by
  cases h with
  | sl m _ h sub h1 hb hc hf =>
    refine ⟨h, sub, rfl, fun j => ⟨(hb j).1, (hb j).2.1, (hb j).2.2, by rw [h1 j, hm], fun c k col hk hcol => ⟨?_, hc j c col hcol⟩⟩⟩
    have := hf j c col hcol
    dsimp only at this
    rwa [List.getD_eq_getElem?_getD, hk] at this
theorem fit_sl1 {m : Nat} {ks : List SK} {d : SK} {c : Col} (h : ColFact (.sl m fun i => ks.getD i d) c) (hm : m = ks.length) (h1 : c.len = 1) : ∃ nl n cap sub, c = .cl [(nl, n, cap)] sub ∧ n ≤ cap ∧ cap ≤ maxLen ∧ (nl = true → n = 0) ∧ FitN n ks (sub 0) := by
  obtain ⟨hd, sub, rfl, hh⟩ := fit_sl h hm
  match hd, h1, hh with
  | [(nl, n, cap)], _, hh =>
    obtain ⟨a, b, c, d⟩ := hh 0
    exact ⟨nl, n, cap, sub, rfl, a, b, c, d⟩
theorem skolem {α : Type} {P : Nat → α → Prop} {F : α → List Col} {sub : Nat → List Col} (h : ∀ j, ∃ y, sub j = F y ∧ P j y) : ∃ Y : Nat → α, sub = (fun j => F (Y j)) ∧ ∀ j, P j (Y j) :=
  ⟨fun j => Classical.choose (h j), funext fun j => (Classical.choose_spec (h j)).1, fun j => (Classical.choose_spec (h j)).2⟩
end Go.Eng

set_option autoImplicit false
namespace Go.Eng
open Go Go.RowKit

/-! ## A proof about a tree, way by way -/
namespace T
noncomputable def skip {α : Type} (n : Nat) : T α → T α :=
  @Nat.rec (fun _ => T α → T α) (fun x => x) (fun _ ih x => @T.casesOn α (fun _ => T α) x .ret (fun b t e => ih (@Bool.rec (fun _ => T α) e t b)) .pan (fun b t => ih (@Bool.rec (fun _ => T α) .fail t b)) .fail) n
noncomputable def condE {α : Type} (x : T α) : Option Bool := @T.casesOn α (fun _ => Option Bool) x (fun _ => none) (fun b _ _ => some b) (fun _ _ => none) (fun _ _ => none) none
noncomputable def child {α : Type} (d : Bool) (x : T α) : T α := @T.casesOn α (fun _ => T α) x (fun _ => .fail) (fun _ t e => @Bool.rec (fun _ => T α) e t d) (fun _ _ => .fail) (fun _ _ => .fail) .fail
noncomputable def leafE {α β : Type} (f : α → β) (x : T α) : Option β := @T.casesOn α (fun _ => Option β) x (fun a => some (f a)) (fun _ _ _ => none) (fun _ _ => none) (fun _ _ => none) none
end T
section
variable {α β : Type} {Qp : AV → Mem → Prop}
theorem H.skip {Q : α → Prop} (n : Nat) : ∀ {x : T α}, H (T.skip n x) Q Qp → H x Q Qp := by
  induction n with
  | zero => intro x h; exact h
  | succ n ih =>
    intro x h
    cases x with
    | ret a => exact h
    | br b t e =>
      have h : H (T.skip n (@Bool.rec (fun _ => T α) e t b)) Q Qp := h
      have := ih h
      cases b with
      | true => exact H.tt rfl this
      | false => exact H.ff rfl this
    | pan x M => exact h
    | ck b t =>
      have h : H (T.skip n (@Bool.rec (fun _ => T α) .fail t b)) Q Qp := h
      have := ih h
      cases b with
      | true => exact H.ck rfl this
      | false => exact this.out.elim
    | fail => exact h
theorem H.sp {Q : α → Prop} {x : T α} (n : Nat) (c : Bool) (hc : T.condE (T.skip n x) = some c) (ht : c = true → H (T.child true (T.skip n x)) Q Qp) (hf : c = false → H (T.child false (T.skip n x)) Q Qp) : H x Q Qp := by
  refine H.skip n ?_
  revert hc ht hf
  generalize T.skip n x = y
  intro hc ht hf
  cases y with
  | br b t e =>
    obtain rfl : b = c := Option.some.inj hc
    exact H.br ht hf
  | _ => cases hc
/-- By a Bool that the condition is told by. -/
theorem H.sb {Q : α → Prop} {x : T α} (n : Nat) (φ : Bool → Bool) (b : Bool) (hc : T.condE (T.skip n x) = some (φ b)) (ht : b = true → H (T.child (φ true) (T.skip n x)) Q Qp) (hf : b = false → H (T.child (φ false) (T.skip n x)) Q Qp) : H x Q Qp := by
  cases b with
  | true => exact H.sp n _ hc (fun e => by have := ht rfl; rwa [e] at this) (fun e => by have := ht rfl; rwa [e] at this)
  | false => exact H.sp n _ hc (fun e => by have := hf rfl; rwa [e] at this) (fun e => by have := hf rfl; rwa [e] at this)
theorem H.kb {Q : α → Prop} {x : T α} (n : Nat) (φ : Bool → Bool) {b d : Bool} (hb : b = d) (hc : T.condE (T.skip n x) = some (φ b)) (h : H (T.child (φ d) (T.skip n x)) Q Qp) : H x Q Qp := by
  subst hb
  exact H.sp n _ hc (fun e => by rwa [e] at h) (fun e => by rwa [e] at h)
/-- By a statement that is decided. -/
theorem H.sd {Q : α → Prop} {x : T α} (n : Nat) (φ : Bool → Bool) (p : Prop) [i : Decidable p] (hc : T.condE (T.skip n x) = some (φ (@decide p i))) (ht : p → H (T.child (φ true) (T.skip n x)) Q Qp) (hf : ¬ p → H (T.child (φ false) (T.skip n x)) Q Qp) : H x Q Qp :=
  H.sb n φ _ hc (fun e => ht (of_decide_eq_true e)) (fun e => hf (of_decide_eq_false e))
theorem H.kd {Q : α → Prop} {x : T α} (n : Nat) (φ : Bool → Bool) (p : Prop) [i : Decidable p] (hp : p) (hc : T.condE (T.skip n x) = some (φ (@decide p i))) (h : H (T.child (φ true) (T.skip n x)) Q Qp) : H x Q Qp :=
  H.kb n φ (decide_eq_true hp) hc h
theorem H.nd {Q : α → Prop} {x : T α} (n : Nat) (φ : Bool → Bool) (p : Prop) [i : Decidable p] (hp : ¬ p) (hc : T.condE (T.skip n x) = some (φ (@decide p i))) (h : H (T.child (φ false) (T.skip n x)) Q Qp) : H x Q Qp :=
  H.kb n φ (decide_eq_false hp) hc h
/-- By two numbers that are the same, or not. -/
theorem H.se {Q : α → Prop} {x : T α} (n : Nat) (φ : Bool → Bool) (a b : Int) (hc : T.condE (T.skip n x) = some (φ (a == b))) (ht : a = b → H (T.child (φ true) (T.skip n x)) Q Qp) (hf : a ≠ b → H (T.child (φ false) (T.skip n x)) Q Qp) : H x Q Qp :=
  H.sb n φ _ hc (fun e => ht (by simpa using e)) (fun e => hf (by simpa using e))
theorem H.ke {Q : α → Prop} {x : T α} (n : Nat) (φ : Bool → Bool) (a b : Int) (hp : a = b) (hc : T.condE (T.skip n x) = some (φ (a == b))) (h : H (T.child (φ true) (T.skip n x)) Q Qp) : H x Q Qp :=
  H.kb n φ (b := a == b) (by simpa using hp) hc h
theorem H.ne {Q : α → Prop} {x : T α} (n : Nat) (φ : Bool → Bool) (a b : Int) (hp : a ≠ b) (hc : T.condE (T.skip n x) = some (φ (a == b))) (h : H (T.child (φ false) (T.skip n x)) Q Qp) : H x Q Qp :=
  H.kb n φ (b := a == b) (by simpa using hp) hc h
/-- By a number that is less, or not. -/
theorem H.sl {Q : α → Prop} {x : T α} (n : Nat) (φ : Bool → Bool) (a b : Nat) (hc : T.condE (T.skip n x) = some (φ (Nat.blt a b))) (ht : a < b → H (T.child (φ true) (T.skip n x)) Q Qp) (hf : ¬ a < b → H (T.child (φ false) (T.skip n x)) Q Qp) : H x Q Qp :=
  H.sb n φ _ hc (fun e => ht (by simpa [Nat.blt_eq] using e)) (fun e => hf (fun h => by rw [(by simpa [Nat.blt_eq] using h : Nat.blt a b = true)] at e; cases e))
theorem H.kl {Q : α → Prop} {x : T α} (n : Nat) (φ : Bool → Bool) (a b : Nat) (hp : a < b) (hc : T.condE (T.skip n x) = some (φ (Nat.blt a b))) (h : H (T.child (φ true) (T.skip n x)) Q Qp) : H x Q Qp :=
  H.kb n φ (b := Nat.blt a b) (by simpa [Nat.blt_eq] using hp) hc h
theorem H.nl {Q : α → Prop} {x : T α} (n : Nat) (φ : Bool → Bool) (a b : Nat) (hp : ¬ a < b) (hc : T.condE (T.skip n x) = some (φ (Nat.blt a b))) (h : H (T.child (φ false) (T.skip n x)) Q Qp) : H x Q Qp :=
  H.kb n φ (b := Nat.blt a b) (by cases e : Nat.blt a b with | false => rfl | true => exact absurd (by simpa [Nat.blt_eq] using e) hp) hc h
theorem H.lf {Q : β → Prop} {x : T α} {f : α → β} (n : Nat) (a : β) (hc : T.leafE f (T.skip n x) = some a) (hq : Q a) : H x (fun y => Q (f y)) Qp := by
  refine H.skip n ?_
  revert hc
  generalize T.skip n x = y
  intro hc
  cases y with
  | ret b =>
    obtain rfl : f b = a := Option.some.inj hc
    exact H.ret hq
  | _ => cases hc
end
end Go.Eng

set_option autoImplicit false
namespace Go.Eng
open Go Go.RowKit

/-! ## Contracts of functions that read objects, and lay new ones -/
noncomputable def dedupL (l : List Nat) : List Nat := @List.rec Nat (fun _ => List Nat) [] (fun x _ ih => bif2 (memN x ih) ih (x :: ih)) l
def flatO : AObj → Bool
  | .dead => false
  | .ro .. => true
  | .own _ _ cells => cells.all plain0
  | .vec .. => true
  | .map .. => false
noncomputable def backI (ids : List Nat) (next j : Nat) : Nat := @Option.rec Nat (fun _ => Nat) (next + (j - ids.length)) (fun x => x) (nth? ids j)
noncomputable def addO (M : Mem) (l : List AObj) : Mem := ⟨M.next + l.length, M.lock, fun id => bif2 (Nat.blt id M.next) (M.get id) (nthO l (id - M.next))⟩
noncomputable def viewK (g : List AV → List AObj → T (AV × List AObj)) (ids : List Nat) (args : List AV) (M : Mem) : T (AV × Mem) :=
  .ck (ids.all (fun i => Nat.blt i M.next) && (mapL M.get ids).all flatO) ((T.nopan (g (mapL (ren1 fun id => idxOf ids id 0) args) (mapL M.get ids))).bind fun r =>
    .ck (r.2.all flatO) (.ret (ren1 (fun j => some (backI ids M.next j)) r.1, addO M r.2)))
noncomputable def viewS (g : List AV → List AObj → T (AV × List AObj)) : List AV → Mem → T (AV × Mem) := fun args M => viewK g (dedupL (catL ids1 args)) args M
/-- What a run leaves behind its arguments' objects. -/
noncomputable def resV (k : Nat) (x : AV × Mem) : AV × List AObj := (x.1, (mapL x.2.get (iota x.2.next)).drop k)

theorem idxOf_spec (l : List Nat) (id : Nat) : ∀ (b j : Nat), idxOf l id b = some j → b ≤ j ∧ l[j - b]? = some id := by
  induction l with
  | nil => intro b j h; cases h
  | cons x l ih =>
    intro b j h
    have h : bif2 (Nat.beq x id) (some b) (idxOf l id (b + 1)) = some j := h
    rw [bif2_eq] at h
    split at h
    · rename_i e
      cases h
      exact ⟨Nat.le_refl _, by rw [Nat.sub_self]; exact congrArg some (Nat.eq_of_beq_eq_true e)⟩
    · obtain ⟨h1, h2⟩ := ih (b + 1) j h
      refine ⟨by omega, ?_⟩
      rw [show j - b = (j - (b + 1)) + 1 by omega]
      exact h2
theorem memN_iff (x : Nat) (l : List Nat) : memN x l = true ↔ x ∈ l := by
  induction l with
  | nil => exact ⟨fun h => (nomatch h), fun h => (nomatch h)⟩
  | cons y l ih =>
    have e : memN x (y :: l) = bif2 (Nat.beq y x) true (memN x l) := rfl
    rw [e, bif2_eq]
    split
    · rename_i h; simp [Nat.eq_of_beq_eq_true h]
    · rename_i h
      have : y ≠ x := fun e => h (by subst e; exact Nat.beq_refl _)
      rw [ih, List.mem_cons]
      exact ⟨.inr, fun h => h.resolve_left (Ne.symm this)⟩
theorem nodup_get {l : List Nat} (h : l.Nodup) : ∀ {j j' i : Nat}, l[j]? = some i → l[j']? = some i → j = j' := by
  induction l with
  | nil => intro j j' i h; simp at h
  | cons x l ih =>
    obtain ⟨h1, h2⟩ := List.nodup_cons.1 h
    intro j j' i a b
    cases j with
    | zero =>
      cases j' with
      | zero => rfl
      | succ j' => simp at a b; subst a; exact (h1 (List.mem_of_getElem? b)).elim
    | succ j =>
      cases j' with
      | zero => simp at a b; subst b; exact (h1 (List.mem_of_getElem? a)).elim
      | succ j' => exact congrArg (· + 1) (ih h2 (i := i) (by simpa using a) (by simpa using b))
theorem dedupL_nodup (l : List Nat) : (dedupL l).Nodup := by
  induction l with
  | nil => exact .nil
  | cons x l ih =>
    have e : dedupL (x :: l) = bif2 (memN x (dedupL l)) (dedupL l) (x :: dedupL l) := rfl
    rw [e, bif2_eq]
    split
    · exact ih
    · rename_i h
      exact List.nodup_cons.2 ⟨fun hx => h ((memN_iff _ _).2 hx), ih⟩
theorem ObjRel.move {N : NB} {φ φ' : Phi} {w : World} {id id' : Nat} {o : AObj} (hf : flatO o = true) (e : φ' id' = φ id) (h : ObjRel N φ w id o) : ObjRel N φ' w id' o := by
  cases o with
  | dead => exact h
  | ro nil n cols => obtain ⟨h1, x, h2, h3⟩ := h; exact ⟨h1, x, e.trans h2, h3⟩
  | own el rs cells =>
    obtain ⟨p, h1, h2, h3, h4, h5, h6⟩ := h
    refine ⟨p, e.trans h1, h2, h3, h4, h5, fun j a hj => ?_⟩
    obtain ⟨z, hz, ha⟩ := h6 j a hj
    have hp : plain0 a = true := List.all_eq_true.1 hf a (List.mem_of_getElem? hj)
    exact ⟨z, hz, plain0_rel hp ha⟩
  | vec el n cols => obtain ⟨h1, p, h2, h3⟩ := h; exact ⟨h1, p, e.trans h2, h3⟩
  | map es cl => cases hf

theorem sOk_view {P : Program} {tt : TT} (tok : TTok P tt) {F : Nat → Option FI} (hF : FOk P F) (hmix : P.follows .mixedOrders = true) {N : NB} {S R : Nat → Option (List AV → Mem → T (AV × Mem))} (h0 : SOk P N S) (hR : SOk P N R) {L d n : Nat}
    {g : List AV → List AObj → T (AV × List AObj)} (h : ∀ args objs Q, (g args objs).holds Q (fun _ _ => False) → H (evFun P tt S F L d n args (memL objs.length objs)) (fun x => Q (resV objs.length x)) (fun _ _ => False)) (hSn : S n = none := by kernel_rfl) :
    SOk P N (fun f => bif2 (Nat.beq f n) (some (viewS g)) (R f)) := by
  intro f s hs args M Q Qp hq
  simp only [bif2_eq] at hs
  split at hs
  case isFalse => exact hR f s hs args M Q Qp hq
  rename_i hf
  obtain rfl : f = n := Nat.eq_of_beq_eq_true hf
  cases hs
  have hq : (viewK g (dedupL (catL ids1 args)) args M).holds Q Qp := hq
  have hnd := dedupL_nodup (catL ids1 args)
  revert hq hnd
  generalize dedupL (catL ids1 args) = ids
  intro hq hnd
  unfold viewK at hq
  obtain ⟨hck, hq⟩ := ck_ok hq
  obtain ⟨hlt, hfl⟩ := Bool.and_eq_true_iff.1 hck
  have hlt : ∀ i ∈ ids, i < M.next := fun i hi => by have := List.all_eq_true.1 hlt i hi; simpa [Nat.blt_eq] using this
  rw [mapL_eq M.get] at hq hfl
  have hfl : ∀ i ∈ ids, flatO (M.get i) = true := fun i hi => List.all_eq_true.1 hfl _ (List.mem_map.2 ⟨i, hi, rfl⟩)
  rw [T.holds_bind] at hq
  have hq := T.nopan_ok hq
  have hrun := h _ _ _ hq
  rw [List.length_map] at hrun
  obtain ⟨k1, k2⟩ := evFun_okA tok h0 hF hmix d hSn _ _ _ _ hrun.out
  refine .inl ⟨k1, fun φ w zs hr hz => ?_⟩
  -- the memory of the arguments alone
  let φ1 : Phi := fun j => (ids[j]?).bind φ
  have hφ1 : ∀ j i, ids[j]? = some i → φ1 j = φ i := fun j i e => by show (ids[j]?).bind φ = _; rw [e]; rfl
  have hget : ∀ j, nthO (ids.map M.get) j = ((ids[j]?).map M.get).getD .dead := fun j => by
    unfold nthO
    rw [nth?_eq, List.getElem?_map]
    cases ids[j]? <;> rfl
  have hr1 : Rep N φ1 (memL ids.length (ids.map M.get)) w := by
    refine ⟨fun j => ?_, fun j j' p p' ho ho' hp hp' e => ?_, fun j p ho hp => ?_, fun j hj => ?_, hr.size⟩
    · show ObjRel N φ1 w j (nthO (ids.map M.get) j)
      rw [hget]
      cases e : ids[j]? with
      | none => exact hr.glob
      | some i => exact (hr.objs i).move (hfl i (List.mem_of_getElem? e)) (hφ1 j i e)
    · have ho : isOwn (nthO (ids.map M.get) j) := ho
      have ho' : isOwn (nthO (ids.map M.get) j') := ho'
      rw [hget] at ho ho'
      cases ei : ids[j]? with
      | none => rw [ei] at ho; exact ho.elim
      | some i =>
        cases ei' : ids[j']? with
        | none => rw [ei'] at ho'; exact ho'.elim
        | some i' =>
          rw [ei] at ho; rw [ei'] at ho'
          rw [hφ1 j i ei] at hp; rw [hφ1 j' i' ei'] at hp'
          have := hr.sep i i' p p' ho ho' hp hp' e
          subst this
          exact nodup_get hnd ei ei'
    · have ho : isOwn (nthO (ids.map M.get) j) := ho
      rw [hget] at ho
      cases ei : ids[j]? with
      | none => rw [ei] at ho; exact ho.elim
      | some i => rw [ei] at ho; rw [hφ1 j i ei] at hp; exact hr.high i p ho hp
    · have hj : ids.length ≤ j := by simpa [memL] using hj
      have e : ids[j]? = none := List.getElem?_eq_none hj
      refine ⟨?_, by show (ids[j]?).bind φ = none; rw [e]; rfl⟩
      show nthO (ids.map M.get) j = .dead
      rw [hget, e]; rfl
  have hren : RenOk φ φ1 fun id => idxOf ids id 0 := fun id j e => by
    obtain ⟨_, e⟩ := idxOf_spec ids id 0 j e
    exact hφ1 j id (by simpa using e)
  refine (k2 φ1 w zs hr1 (ren1s_rel hren hz)).mono fun e w' he => ?_
  rcases he with ⟨u, rfl, φ', x, M', hx, hxu, hr', he⟩ | ⟨u, rfl, φ', x, M', hx, _⟩
  case inr => exact hx.elim
  obtain ⟨hfn, hx⟩ := ck_ok hx
  have hnext : ids.length ≤ M'.next := by have := he.next; simpa [memL] using this
  -- what is as it was
  have hkeep : ∀ b, b < w.heap.size → w'.heap[b]? = w.heap[b]? := fun b hb => he.keep b hb fun id p hl ho _ => by
    have : (memL ids.length (ids.map M.get)).get id = .dead := (hr1.fresh id (by simpa [memL] using hl)).1
    rw [this] at ho; exact ho.elim
  let news := (mapL M'.get (iota M'.next)).drop ids.length
  have hnews : ∀ i, news[i]? = if ids.length + i < M'.next then some (M'.get (ids.length + i)) else none := by
    intro i
    show ((mapL M'.get (iota M'.next)).drop ids.length)[i]? = _
    rw [mapL_eq, iota_eq, List.getElem?_drop, List.getElem?_map]
    split
    · rename_i hlt; rw [List.getElem?_range hlt]; rfl
    · rename_i hlt; rw [List.getElem?_eq_none (by simpa using hlt)]; rfl
  have hnlen : news.length = M'.next - ids.length := by
    show ((mapL M'.get (iota M'.next)).drop ids.length).length = _
    rw [mapL_eq, iota_eq]; simp
  let φ2 : Phi := fun id => if id < M.next then φ id else φ' (ids.length + (id - M.next))
  have hφ2 : ∀ id, id < M.next → φ2 id = φ id := fun id hid => if_pos hid
  have hφ2' : ∀ id, ¬ id < M.next → φ2 id = φ' (ids.length + (id - M.next)) := fun id hid => if_neg hid
  have hle : PhiLe φ φ2 := fun id y e => by
    rcases Nat.lt_or_ge id M.next with h1 | h1
    · rw [hφ2 id h1]; exact e
    · rw [(hr.fresh id h1).2] at e; cases e
  have hback : RenOk φ' φ2 fun j => some (backI ids M.next j) := fun id j e => by
    cases e
    unfold backI
    rw [nth?_eq]
    cases ei : ids[id]? with
    | some i =>
      have hlti := hlt i (List.mem_of_getElem? ei)
      show φ2 i = φ' id
      rw [hφ2 i hlti, he.phi0 id (by have := (List.getElem?_eq_some_iff.1 ei).1; simpa [memL] using this), hφ1 id i ei]
    | none =>
      have : ids.length ≤ id := List.getElem?_eq_none_iff.1 ei
      show φ2 (M.next + (id - ids.length)) = φ' id
      rw [hφ2' _ (by omega)]
      congr 1; omega
  have haget : ∀ id, (addO M news).get id = if id < M.next then M.get id else nthO news (id - M.next) := fun id => by
    show bif2 (Nat.blt id M.next) (M.get id) (nthO news (id - M.next)) = _
    rw [bif2_eq]
    by_cases h1 : id < M.next
    · rw [if_pos h1, if_pos (by simpa [Nat.blt_eq] using h1)]
    · rw [if_neg h1, if_neg (by simpa [Nat.blt_eq] using h1)]
  have hnth : ∀ i, nthO news i = M'.get (ids.length + i) := fun i => by
    unfold nthO
    rw [nth?_eq, hnews]
    split
    · rfl
    · rename_i h1; exact ((hr'.fresh _ (by omega)).1).symm
  have hbnew : ∀ j p, ids.length ≤ j → isOwn (M'.get j) → φ' j = some (some p) → w.heap.size ≤ p.b := fun j p hj ho hp => by
    rcases Nat.lt_or_ge p.b w.heap.size with h1 | h1
    · obtain ⟨id', p', o1, _, _, o4⟩ := he.old j p ho hp h1
      have hl := o4 hj
      have : (memL ids.length (ids.map M.get)).get id' = .dead := (hr1.fresh id' (by simpa [memL] using hl)).1
      rw [this] at o1; exact o1.elim
    · exact h1
  have hbold : ∀ id p, isOwn (M.get id) → φ id = some (some p) → p.b < w.heap.size := fun id p ho hp => hr.lt id p ho hp
  refine .inl ⟨u, rfl, φ2, _, addO M news, hx, ren1_rel hback hxu, ?_, ?_⟩
  · refine ⟨fun id => ?_, fun id id' p p' ho ho' hp hp' e => ?_, fun id p ho hp => ?_, fun id hid => ?_, Nat.le_trans hr.size he.size⟩
    · rw [haget]
      split
      · exact (hr.objs id).step hle (fun b hb => hkeep b (Nat.lt_of_lt_of_le hb hr.size)) (fun ho p hp => hkeep _ (hr.lt id p ho hp))
      · rename_i h1
        rw [hnth]
        have hfl2 : M'.get (ids.length + (id - M.next)) = .dead ∨ flatO (M'.get (ids.length + (id - M.next))) = true := by
          rcases Nat.lt_or_ge (ids.length + (id - M.next)) M'.next with h2 | h2
          · refine .inr (List.all_eq_true.1 hfn _ (List.mem_of_getElem? (i := id - M.next) ?_))
            show news[id - M.next]? = _
            rw [hnews, if_pos h2]
          · exact .inl (hr'.fresh _ h2).1
        rcases hfl2 with h3 | h3
        · rw [h3]; exact hr'.glob
        · exact (hr'.objs _).move h3 (hφ2' id h1)
    · rw [haget] at ho ho'
      by_cases h1 : id < M.next
      · rw [if_pos h1] at ho
        rw [hφ2 id h1] at hp
        by_cases h2 : id' < M.next
        · rw [if_pos h2] at ho'
          rw [hφ2 id' h2] at hp'
          exact hr.sep id id' p p' ho ho' hp hp' e
        · rw [if_neg h2, hnth] at ho'
          rw [hφ2' id' h2] at hp'
          have a := hbold id p ho hp
          have b := hbnew _ p' (by omega) ho' hp'
          omega
      · rw [if_neg h1, hnth] at ho
        rw [hφ2' id h1] at hp
        by_cases h2 : id' < M.next
        · rw [if_pos h2] at ho'
          rw [hφ2 id' h2] at hp'
          have a := hbold id' p' ho' hp'
          have b := hbnew _ p (by omega) ho hp
          omega
        · rw [if_neg h2, hnth] at ho'
          rw [hφ2' id' h2] at hp'
          have := hr'.sep _ _ p p' ho ho' hp hp' e
          omega
    · rw [haget] at ho
      by_cases h1 : id < M.next
      · rw [if_pos h1] at ho; rw [hφ2 id h1] at hp; exact hr.high id p ho hp
      · rw [if_neg h1, hnth] at ho; rw [hφ2' id h1] at hp
        have b := hbnew _ p (by omega) ho hp
        exact Nat.le_trans hr.size b
    · have hid : M.next + news.length ≤ id := hid
      rw [haget, if_neg (by omega), hφ2' id (by omega), hnth]
      exact hr'.fresh _ (by omega)
  · refine ⟨hle, hφ2, Nat.le_add_right _ _, rfl, he.os, he.tape, he.output, he.size, fun b hb _ => hkeep b hb, fun id p ho hp hb => ?_⟩
    rw [haget] at ho
    by_cases h1 : id < M.next
    · rw [if_pos h1] at ho; rw [hφ2 id h1] at hp
      exact ⟨id, p, ho, hp, rfl, fun h => h⟩
    · rw [if_neg h1, hnth] at ho; rw [hφ2' id h1] at hp
      have b := hbnew _ p (by omega) ho hp
      omega
end Go.Eng

set_option autoImplicit false
namespace Go.Eng
open Go Go.RowKit
/-- What a run comes to, picked. -/
theorem H.pick {α β ρ : Type} {x : T α} {f : α → β} {B : ρ → β} {P : ρ → Prop} (h : H x (fun y => ∃ r, f y = B r ∧ P r) (fun _ _ => False)) : ∃ r, P r ∧ H x (fun y => f y = B r) (fun _ _ => False) := by
  obtain ⟨a, ⟨r, e, hp⟩, hl⟩ := T.leaf h.out
  refine ⟨r, hp, ⟨T.holds_mono hl (fun y hy => ?_) fun _ _ h => h⟩⟩
  show f y = B r
  rw [show y = a from hy]; exact e
end Go.Eng

set_option autoImplicit false
namespace Go.Eng
open Go Go.RowKit

/-! ## A function that defers; 'recover' -/
namespace T
noncomputable def catch_ {α β : Type} (x : T α) (f : α → T β) (g : AV → Mem → T β) : T β := @T.rec α (fun _ => T β) f (fun b _ _ t e => .br b t e) g (fun b _ t => .ck b t) .fail x
theorem holds_catch {α β : Type} (x : T α) (f : α → T β) (g : AV → Mem → T β) (Q : β → Prop) (Qp : AV → Mem → Prop) :
    (x.catch_ f g).holds Q Qp = x.holds (fun a => (f a).holds Q Qp) (fun v M => (g v M).holds Q Qp) := by
  induction x with
  | ret a => rfl
  | br b t e iht ihe =>
    show ((b = true → (t.catch_ f g).holds Q Qp) ∧ (b = false → (e.catch_ f g).holds Q Qp)) = _
    rw [iht, ihe]; rfl
  | pan x M => rfl
  | ck b t ih =>
    show (b = true ∧ (t.catch_ f g).holds Q Qp) = _
    rw [ih]; rfl
  | fail => rfl
end T

/-- What is deferred: the function, what it is given. -/
abbrev DA := FuncId × List AV
def isDef (o : Oper) : Bool := match o.op with
  | .defer _ => o.guard.isNone
  | _ => false
noncomputable def defT (st : Tmps) (o : Op) : Option DA := match o with
  | .defer c => match c.callee with
    | .value f => match evA st f with
      | .fn (.func g) caps => some (g, c.args.toList.map (evA st) ++ caps)
      | _ => none
    | _ => none
  | _ => none
section
variable {R : Type}
abbrev DK (R : Type) := List DA → Tmps → Mem → T R
def noD : DK R → DK R := fun _ _ _ _ => .fail
noncomputable def evOpsD (P : Program) (tt : TT) (callF : FuncId → List AV → Mem → T (AV × Mem)) (kn : DK R) (kp : List DA → Tmps → AV → Mem → T R) (all : List Oper) (l : List Oper) : DK R :=
  @List.rec Oper (fun _ => DK R) kn (fun o _ ih ds st M =>
    bif2 (isDef o) (onO (defT st o.op) fun d => ih (d :: ds) (putA o.dst st (.v undef)) M)
      (T.catch_ (evOps P tt callF all [o] st M) (fun x => ih ds x.1 x.2) (fun v M => kp ds st v M))) l
noncomputable def evD (P : Program) (tt : TT) (callF : FuncId → List AV → Mem → T (AV × Mem)) (z : Bool) (big : Nat) (kp : List DA → Tmps → AV → Mem → T R) (kr : DK R) (c : Code) : DK R → DK R :=
  @Code.rec (fun _ => DK R → DK R) (fun kn => kn)
    (fun _ ops draw kn => bif2 draw (fun ds st M => (T.nopan (evDrawS P tt callF z big ops.toList st M)).bind fun x => kn ds x.1 x.2) (evOpsD P tt callF kn kp ops.toList ops.toList))
    (fun _ _ iha ihb kn => iha (ihb kn))
    (fun c _ _ iht ihe kn ds st M => onB (evA st c) fun b => .br b (iht kn ds (setB c true st) M) (ihe kn ds (setB c false st) M)) (fun _ _ _ => noD) (fun _ _ => noD) (fun _ _ _ _ _ _ => noD) (fun _ => noD) (fun _ _ => noD) (fun _ => noD) (fun _ => noD) (fun _ => kr) (fun _ => noD) c
end

def DefRel (φ : Phi) (d : DA) (x : Deferred) : Prop := ∃ cap, x.target = .fn (.func d.1) cap ∧ AVsRel φ d.2 (x.args ++ cap).toList
inductive DefsRel (φ : Phi) : List DA → List Deferred → Prop
  | nil : DefsRel φ [] []
  | cons {d : DA} {x : Deferred} {ds : List DA} {xs : List Deferred} (h : DefRel φ d x) (t : DefsRel φ ds xs) : DefsRel φ (d :: ds) (x :: xs)
theorem DefsRel.mono {φ φ' : Phi} (hp : PhiLe φ φ') {ds : List DA} {xs : List Deferred} (h : DefsRel φ ds xs) : DefsRel φ' ds xs := by
  induction h with
  | nil => exact .nil
  | cons h t ih => obtain ⟨cap, h1, h2⟩ := h; exact .cons ⟨cap, h1, h2.mono hp⟩ ih

theorem defT_ok {P : Program} {φ : Phi} {st : Tmps} {a : Act} (hst : TmpsRel φ st a.tmps) {o : Oper} {d : DA} (h : defT st o.op = some d) (w : World) :
    ∃ x, (execOp a.eval o).run P w = .ok (.defer x) w ∧ DefRel φ d x := by
  unfold defT at h
  cases ho : o.op <;> rw [ho] at h <;> first | (cases h; done) | skip
  rename_i c
  simp only at h
  cases hc : c.callee <;> rw [hc] at h <;> first | (cases h; done) | skip
  rename_i f
  simp only at h
  have hv := evA_rel hst f
  generalize hgv : a.eval f = fv at hv
  generalize evA st f = x at h hv
  cases hv <;> first | (cases h; done) | skip
  rename_i fn l ca hl
  cases fn <;> first | (cases h; done) | skip
  rename_i g
  cases h
  refine ⟨{ target := .fn (.func g) ca, args := c.args.map a.eval }, ?_, ca, rfl, ?_⟩
  · simp [execOp, ho, resolve, hc, hgv, Deferred.ofValue, Sem.run]
  · have := (args_rel hst c.args).append hl
    simpa using this

section
variable {P : Program} {tt : TT} (tok : TTok P tt) {N : NB} {callF : FuncId → List AV → Mem → T (AV × Mem)} (hc : CallsOk P N callF) {n : Nat} {R : Type}
include tok hc
theorem evOpsD_ok {ops : Array Oper} (hall : ∀ o ∈ ops.toList, OpOk P n o) {kn : DK R} {kp : List DA → Tmps → AV → Mem → T R} {Q : R → Prop} {Qp : AV → Mem → Prop} {QX : Exit → Act → World → Prop} (l : List Oper) :
    ∀ {ds : List DA} {xs : List Deferred} {st : Tmps} {M : Mem} {φ : Phi} {w : World} {a : Act} (_ : (evOpsD P tt callF kn kp ops.toList l ds st M).holds Q Qp) (_ : ∀ o ∈ l, OpOk P n o)
    (_ : StOk N n xs φ M w st a) (_ : DefsRel φ ds xs)
    (_ : ∀ ds' xs' φ' M' w' st' a', (kn ds' st' M').holds Q Qp → StOk N n xs' φ' M' w' st' a' → DefsRel φ' ds' xs' → Ext φ M w φ' M' w' → QX .normal a' w')
    (_ : ∀ ds' xs' φ' M' w' st' a' x v, (kp ds' st' x M').holds Q Qp → TmpsRel φ' st' a'.tmps → a'.defers = xs' → Rep N φ' M' w' → AVRel φ' x v → DefsRel φ' ds' xs' → Ext φ M w φ' M' w' → QX (.panic [{ v, recovered := false }]) a' w'), wpList P ops QX l a w := by
  induction l with
  | nil => intro ds xs st M φ w a h _ hs hd hn hp; exact hn ds xs φ M w st a h hs hd (.refl _ _ _)
  | cons o l ih =>
    intro ds xs st M φ w a h hok hs hd hn hp
    have h : (bif2 (isDef o) (onO (defT st o.op) fun d => evOpsD P tt callF kn kp ops.toList l (d :: ds) (putA o.dst st (.v undef)) M)
      (T.catch_ (evOps P tt callF ops.toList [o] st M) (fun x => evOpsD P tt callF kn kp ops.toList l ds x.1 x.2) (fun v M => kp ds st v M))).holds Q Qp := h
    unfold wpList
    rw [bif2_eq] at h
    split at h
    · rename_i hi
      obtain ⟨d, hdt, h⟩ := onO_ok h
      obtain ⟨x, hrun, hx⟩ := defT_ok (P := P) hs.tmps hdt w
      have hg : o.guard = none := by
        unfold isDef at hi
        split at hi
        · simpa using hi
        · cases hi
      rw [if_pos (by simp [Region.wanted, hg])]
      refine .inl ?_
      unfold Oper.wp
      rw [hrun, Oper.upon_defer]
      have hput : StOk N n (x :: xs) φ M w (putA o.dst st (.v undef)) ({ a with defers := x :: a.defers }.put o.dst undef) :=
        ⟨hs.rep, TmpsRel.put (a := { a with defers := x :: a.defers }) hs.tmps (.v _) (fun t ht => by rw [show ({ a with defers := x :: a.defers } : Act).tmps = a.tmps from rfl, hs.size]; exact (hok o (by simp)).1 t ht),
          (put_size ..).trans hs.size, (put_defers ..).trans (by rw [← hs.defers])⟩
      exact ih h (fun o' ho' => hok o' (by simp [ho'])) hput (.cons hx hd) hn hp
    · rw [T.holds_catch] at h
      refine evOps_stepA (l := []) (ds := xs) tok hc hall h (hok o (by simp)) hs ?_ ?_
      · intro φ' M' w' st' a' h1 h2 h3
        exact ih h1 (fun o' ho' => hok o' (by simp [ho'])) h2 (hd.mono h3.phi) (fun ds' xs' φ2 M2 w2 st2 a2 k1 k2 k3 k4 => hn ds' xs' φ2 M2 w2 st2 a2 k1 k2 k3 (h3.trans k4))
          (fun ds' xs' φ2 M2 w2 st2 a2 x v k1 k2 k3 k4 k5 k6 k7 => hp ds' xs' φ2 M2 w2 st2 a2 x v k1 k2 k3 k4 k5 k6 (h3.trans k7))
      · intro v w' ⟨φ', x, M', h1, h2, h3, h4⟩
        exact hp ds xs φ' M' w' st a x v h1 (hs.tmps.mono h4.phi) hs.defers h3 h2 (hd.mono h4.phi) h4

theorem evD_ok (hmix : P.follows .mixedOrders = true) {z : Bool} {big : Nat} {kp : List DA → Tmps → AV → Mem → T R} {kr : DK R} {Q : R → Prop} {Qp : AV → Mem → Prop} (c : Code) : ∀ {QX : Exit → Act → World → Prop} {kn : DK R}
    {ds : List DA} {xs : List Deferred} {st : Tmps} {M : Mem} {φ : Phi} {w : World} {a : Act} (_ : (evD P tt callF z big kp kr c kn ds st M).holds Q Qp) (_ : CodeOk P n c)
    (_ : StOk N n xs φ M w st a) (_ : DefsRel φ ds xs)
    (_ : ∀ ds' xs' φ' M' w' st' a', (kn ds' st' M').holds Q Qp → StOk N n xs' φ' M' w' st' a' → DefsRel φ' ds' xs' → Ext φ M w φ' M' w' → QX .normal a' w')
    (_ : ∀ ds' xs' φ' M' w' st' a', (kr ds' st' M').holds Q Qp → StOk N n xs' φ' M' w' st' a' → DefsRel φ' ds' xs' → Ext φ M w φ' M' w' → QX .ret a' w')
    (_ : ∀ ds' xs' φ' M' w' st' a' x v, (kp ds' st' x M').holds Q Qp → TmpsRel φ' st' a'.tmps → a'.defers = xs' → Rep N φ' M' w' → AVRel φ' x v → DefsRel φ' ds' xs' → Ext φ M w φ' M' w' → QX (.panic [{ v, recovered := false }]) a' w'),
    c.wp P QX a w := by
  induction c with
  | skip => intro QX kn ds xs st M φ w a h _ hs hd hn hr hp; exact wp_skip (hn ds xs φ M w st a h hs hd (.refl _ _ _))
  | ret => intro QX kn ds xs st M φ w a h _ hs hd hn hr hp; exact wp_ret (hr ds xs φ M w st a h hs hd (.refl _ _ _))
  | region id ops draw =>
    intro QX kn ds xs st M φ w a h hok hs hd hn hr hp
    cases draw with
    | true =>
      have h : ((T.nopan (evDrawS P tt callF z big ops.toList st M)).bind fun x => kn ds x.1 x.2).holds Q Qp := h
      rw [T.holds_bind] at h
      refine evDrawS_ok tok hc hmix hok (T.nopan_ok h) hs (fun φ' M' w' st' a' h1 h2 h3 => hn ds xs φ' M' w' st' a' h1 h2 (hd.mono h3.phi) h3) ?_
      intro v a' w' _ hg
      obtain ⟨_, _, _, hf, _⟩ := hg
      exact hf.elim
    | false => exact wp_region_list (evOpsD_ok tok hc hok ops.toList h hok hs hd hn hp)
  | seq x y ihx ihy =>
    intro QX kn ds xs st M φ w a h hok hs hd hn hr hp
    refine wp_seq (ihx (kn := evD P tt callF z big kp kr y kn) h hok.1 hs hd ?_ ?_ ?_)
    · intro ds' xs' φ' M' w' st' a' h1 h2 h3 h4
      exact ihy h1 hok.2 h2 h3 (fun ds' xs' φ2 M2 w2 st2 a2 k1 k2 k3 k4 => hn ds' xs' φ2 M2 w2 st2 a2 k1 k2 k3 (h4.trans k4)) (fun ds' xs' φ2 M2 w2 st2 a2 k1 k2 k3 k4 => hr ds' xs' φ2 M2 w2 st2 a2 k1 k2 k3 (h4.trans k4))
        (fun ds' xs' φ2 M2 w2 st2 a2 x v k1 k2 k3 k4 k5 k6 k7 => hp ds' xs' φ2 M2 w2 st2 a2 x v k1 k2 k3 k4 k5 k6 (h4.trans k7))
    · intro ds' xs' φ' M' w' st' a' h1 h2 h3 h4; exact hr ds' xs' φ' M' w' st' a' h1 h2 h3 h4
    · intro ds' xs' φ' M' w' st' a' x v h1 h2 h3 h4 h5 h6 h7; exact hp ds' xs' φ' M' w' st' a' x v h1 h2 h3 h4 h5 h6 h7
  | cond cnd x y ihx ihy =>
    intro QX kn ds xs st M φ w a h hok hs hd hn hr hp
    obtain ⟨b, hb, h⟩ := onB_ok (show (onB (evA st cnd) fun b => .br b (evD P tt callF z big kp kr x kn ds (setB cnd true st) M) (evD P tt callF z big kp kr y kn ds (setB cnd false st) M)).holds Q Qp from h)
    have hx : b = true → (evD P tt callF z big kp kr x kn ds st M).holds Q Qp := fun e => by
      have := h.1 e
      rw [setB_self (by rw [hb, e])] at this
      exact this
    have hy : b = false → (evD P tt callF z big kp kr y kn ds st M).holds Q Qp := fun e => by
      have := h.2 e
      rw [setB_self (by rw [hb, e])] at this
      exact this
    have hv := evA_rel hs.tmps cnd
    rw [hb] at hv
    generalize hgv : a.eval cnd = cv at hv
    cases hv
    exact wp_cond_split hgv (fun e => ihx (hx e) hok.1 hs hd hn hr hp) (fun e => ihy (hy e) hok.2 hs hd hn hr hp)
  | _ => intro QX kn ds xs st M φ w a h; exact h.elim
end
end Go.Eng

set_option autoImplicit false
namespace Go.Eng
open Go Go.RowKit

/-- How a deferred function is told: one that recovers, and one that doesn't. -/
inductive DKd where
  | plain (fi : FI)
  | rcv (fi : FI) (d0 d1 : Nat) (rest : Code)
noncomputable def recV (m : Option AV) : AV := @Option.rec AV (fun _ => AV) (.v .nilIface) (fun v => v) m
noncomputable def onX2 {β : Type} (x : Res) (t : T β) : T β := @X.casesOn (fun _ => T β) x.1 t (fun _ => .fail) t
noncomputable def evDef (P : Program) (tt : TT) (L big : Nat) (callF : FuncId → List AV → Mem → T (AV × Mem)) (D : FuncId → Option DKd) (da : DA) (m : Option AV) (M : Mem) : T (Option AV × Mem) :=
  onO (D da.1) fun k => @DKd.casesOn (fun _ => T (Option AV × Mem)) k
    (fun fi => (T.nopan (evBody P tt L big callF fi da.2 M)).bind fun x => .ret (m, x.2))
    (fun fi d0 d1 rest => .br (Nat.ble da.2.length fi.n && (Nat.blt d0 fi.n && Nat.blt d1 fi.n))
      ((T.nopan (evCode P tt callF da.2 fi.keep L big rest (putA (some d1) (putA (some d0) (argTmps da.2 0) (recV m)) (recV m)) M)).bind fun x => onX2 x (.ret (none, x.2.2))) .fail)
noncomputable def runDs (P : Program) (tt : TT) (L big : Nat) (callF : FuncId → List AV → Mem → T (AV × Mem)) (D : FuncId → Option DKd) (fin : Option AV → Mem → T (AV × Mem)) (ds : List DA) : Option AV → Mem → T (AV × Mem) :=
  @List.rec DA (fun _ => Option AV → Mem → T (AV × Mem)) fin (fun d _ ih m M => (evDef P tt L big callF D d m M).bind fun x => ih x.1 x.2) ds
noncomputable def finD (tt : TT) (fi : FI) (base : Nat) (roots : List AV) (st : Tmps) (m : Option AV) (M : Mem) : T (AV × Mem) :=
  @Option.rec AV (fun _ => T (AV × Mem)) ((evRes tt st fi.res M).bind (shutF fi.keep.z base roots)) (fun v => .pan v M) m
/-- A function that defers. -/
noncomputable def evFunD (P : Program) (tt : TT) (L big : Nat) (callF : FuncId → List AV → Mem → T (AV × Mem)) (D : FuncId → Option DKd) (fi : FI) (args : List AV) (M : Mem) : T (AV × Mem) :=
  .br (Nat.ble args.length fi.n) (forceN M.next fun base => evD P tt callF fi.keep.z big (fun ds st v M' => runDs P tt L big callF D (finD tt fi base args st) ds (some v) M') (fun ds st M' => runDs P tt L big callF D (finD tt fi base args st) ds none M') fi.code
    (fun ds st M' => runDs P tt L big callF D (finD tt fi base args st) ds none M') [] (argTmps args 0) M) .fail

def DOk (P : Program) (D : FuncId → Option DKd) : Prop := ∀ f k, D f = some k → match k with
  | .plain fi => FIok P f fi
  | .rcv fi d0 d1 rest => ∃ fn id ty0 ty1 p0 p1 e0 e1 at0, P.funcs[f]? = some fn ∧
      fn.body = some (.seq (.region id #[{ dst := some d0, op := .call { callee := .builtin .recover, args := #[], argTypes := at0 }, type := ty0, pos := p0, after := e0, guard := none }, { dst := some d1, op := .assign (.tmp d0), type := ty1, pos := p1, after := e1, guard := none }] false) rest) ∧
      fn.results = #[] ∧ fn.ntmps = fi.n ∧ (fn.name == "runtime.NumGoroutine") = false ∧ CodeOk P fi.n rest

/-- The frame below, and what the panic is. -/
def ModeRel (φ : Phi) (m : Option AV) (u : FrameMode) : Prop := match m with
  | none => u = .returning
  | some x => ∃ v, u = .panicking [{ v, recovered := false }] ∧ AVRel φ x v

section
variable {P : Program} {tt : TT} (tok : TTok P tt) {N : NB} {callF : FuncId → List AV → Mem → T (AV × Mem)} (hc : CallsOk P N callF) (hmix : P.follows .mixedOrders = true) {L big : Nat}
include tok hc hmix

theorem evBody_okD {f : FuncId} {fi : FI} (hf : FIok P f fi) {args : List AV} {M : Mem} {Q : AV × Mem → Prop} {Qp : AV → Mem → Prop}
    (h : (evBody P tt L big callF fi args M).holds Q Qp) {φ : Phi} {w : World} {zs : List Value} (hr : Rep N φ M w) (hz : AVsRel φ args zs) (u : FrameMode) :
    CallsD P f zs.toArray u w fun e u' w' => u' = u ∧ ((∃ v, e = .returned v ∧ Good N φ M w Q v w') ∨ (∃ v, e = .panicked [{ v, recovered := false }] ∧ GoodP N φ M w Qp v w')) := by
  obtain ⟨fn, h1, h2, h3, hn, h4, h5⟩ := hf.ex
  obtain ⟨hle, h⟩ := br_ok (show (T.br (Nat.ble args.length fi.n) (forceN M.next fun base => (evCode P tt callF args fi.keep L big fi.code (argTmps args 0) M).bind (evEnd base args tt fi)) .fail).holds Q Qp from h)
  rw [forceN_eq, T.holds_bind] at h
  have hlen : zs.length ≤ fn.ntmps := by rw [hn, ← hz.length]; exact Nat.le_of_ble_eq_true hle
  refine callsD_of_wp h1 h2 (evCode_ok (n := fi.n) (ds := []) tok hc hmix fi.code h h5 ⟨hr, argTmps_rel args hz 0 _ ?_, ?_, rfl⟩ ?_ ?_)
  · intro j v hj
    have hlt : j < zs.length := (List.getElem?_eq_some_iff.1 hj).1
    simp only [Nat.zero_add, Array.getD_eq_getD_getElem?]
    rw [Array.getElem?_append_left (by simpa using hlt)]
    simp [hj]
  · simp; omega
  · intro x φ' M' w' st' a' hq hs he
    have fin : ((evRes tt st' fi.res M').bind (shutF fi.keep.z M.next args)).holds Q Qp → bodyPost P fn (fun e w' => (∃ v, e = .returned v ∧ Good N φ M w Q v w') ∨ (∃ v, e = .panicked [{ v, recovered := false }] ∧ GoodP N φ M w Qp v w')) .ret a' w' := by
      intro hq
      obtain ⟨v, hv, hg⟩ := results_ok (P := P) (fn := fn) tok hr he hs.rep hs.tmps rfl (by rw [h3]; exact hq)
      exact ⟨hs.defers, v, hv, .inl ⟨v, rfl, hg⟩⟩
    cases x with
    | normal => exact fin hq
    | ret => exact fin hq
    | exit j => exact hq.elim
  · intro v a' w' hd hg
    exact ⟨hd, .inr ⟨v, rfl, hg⟩⟩

omit tok hc hmix in
theorem recover_region {a0 : Act} {rv : Value} {cs cs1 : List Frame} {w : World} {d0 d1 : Nat} {at0 : Array TypeId} {ty0 ty1 : TypeId} {p0 p1 : String} {e0 e1 : Array Edge}
    (hrec : recoverD cs = some (rv, cs1) ∨ (recoverD cs = none ∧ rv = .nilIface ∧ cs1 = cs)) (hev : (a0.put (some d0) rv).eval (.tmp d0) = rv) (QX : Exit → Act → List Frame → World → Prop) (h : QX .normal ((a0.put (some d0) rv).put (some d1) rv) cs1 w) :
    wpOpsS P #[({ dst := some d0, op := .call { callee := .builtin .recover, args := #[], argTypes := at0 }, type := ty0, pos := p0, after := e0, guard := none } : Oper), { dst := some d1, op := .assign (.tmp d0), type := ty1, pos := p1, after := e1, guard := none }] QX [0, 1] a0 cs w := by
  have hnext : wpOpsS P #[({ dst := some d0, op := .call { callee := .builtin .recover, args := #[], argTypes := at0 }, type := ty0, pos := p0, after := e0, guard := none } : Oper), { dst := some d1, op := .assign (.tmp d0), type := ty1, pos := p1, after := e1, guard := none }] QX [1] (a0.put (some d0) rv) cs1 w := by
    simp only [wpOpsS]
    simp [Region.wanted, execOp, Oper.upon, hev]
    exact h
  unfold wpOpsS
  have hrun : (execOp a0.eval ({ dst := some d0, op := .call { callee := .builtin .recover, args := #[], argTypes := at0 }, type := ty0, pos := p0, after := e0, guard := none } : Oper)).run P w = .ok .recover w := by
    simp [execOp, resolve, invoke, builtin]
  simp only [List.getElem?_toArray, List.getElem?_cons_zero]
  rw [if_pos (by simp [Region.wanted]), hrun]
  rcases hrec with e | ⟨e, rfl, rfl⟩
  · simp only [e]; exact hnext
  · simp only [e]; exact hnext

theorem evDef_ok {D : FuncId → Option DKd} (hD : DOk P D) {da : DA} {m : Option AV} {M : Mem} {Q : Option AV × Mem → Prop} {Qp : AV → Mem → Prop} (h : (evDef P tt L big callF D da m M).holds Q Qp)
    {φ : Phi} {w : World} {zs : List Value} (hr : Rep N φ M w) (hz : AVsRel φ da.2 zs) {u : FrameMode} (hu : ModeRel φ m u) :
    (∃ fn c, P.funcs[da.1]? = some fn ∧ fn.body = some c ∧ (fn.name == "runtime.NumGoroutine") = false) ∧
    CallsD P da.1 zs.toArray u w fun e u' w' => ∃ r, e = .returned r ∧ ∃ φ' m' M', Q (m', M') ∧ ModeRel φ' m' (settle u') ∧ Rep N φ' M' w' ∧ Ext φ M w φ' M' w' := by
  obtain ⟨k, hk, h⟩ := onO_ok h
  have hd := hD _ _ hk
  cases k with
  | plain fi =>
    have h : ((T.nopan (evBody P tt L big callF fi da.2 M)).bind fun x => .ret (m, x.2)).holds Q Qp := h
    rw [T.holds_bind] at h
    have h := T.nopan_ok h
    have hd : FIok P da.1 fi := hd
    obtain ⟨fn, h1, h2, h3, hn, h4, h5⟩ := hd.ex
    refine ⟨⟨fn, fi.code, h1, h2, h4⟩, (evBody_okD tok hc hmix hd h hr hz u).mono ?_⟩
    rintro e u' w' ⟨rfl, ⟨v, rfl, φ', x, M', hq, _, hr', he⟩ | ⟨v, rfl, _, _, _, hf, _⟩⟩
    · refine ⟨v, rfl, φ', m, M', hq, ?_, hr', he⟩
      cases m with
      | none => cases hu; rfl
      | some x => obtain ⟨v, rfl, hv⟩ := hu; exact ⟨v, rfl, hv.mono he.phi⟩
    · exact hf.elim
  | rcv fi d0 d1 rest =>
    obtain ⟨fn, id, ty0, ty1, p0, p1, e0, e1, at0, h1, h2, h3, hn, h4, h5⟩ := hd
    obtain ⟨hle, h⟩ := br_ok (show (T.br (Nat.ble da.2.length fi.n && (Nat.blt d0 fi.n && Nat.blt d1 fi.n))
      ((T.nopan (evCode P tt callF da.2 fi.keep L big rest (putA (some d1) (putA (some d0) (argTmps da.2 0) (recV m)) (recV m)) M)).bind fun x => onX2 x (.ret (none, x.2.2))) .fail).holds Q Qp from h)
    rw [T.holds_bind] at h
    have h := T.nopan_ok h
    obtain ⟨hl1, hl2⟩ := Bool.and_eq_true_iff.1 hle
    obtain ⟨hl2, hl3⟩ := Bool.and_eq_true_iff.1 hl2
    have hl1 : da.2.length ≤ fi.n := Nat.le_of_ble_eq_true hl1
    have hl2 : d0 < fi.n := Nat.le_of_ble_eq_true hl2
    have hl3 : d1 < fi.n := Nat.le_of_ble_eq_true hl3
    have hlen : zs.length ≤ fn.ntmps := by rw [hn, ← hz.length]; exact hl1
    refine ⟨⟨fn, _, h1, h2, h4⟩, callsD_of_wpS h1 h2 fun c₀ cs hu0 => ?_⟩
    have hst0 : TmpsRel φ (argTmps da.2 0) (zs.toArray ++ Array.replicate (fn.ntmps - zs.toArray.size) undef) := argTmps_rel da.2 hz 0 _ fun j v hj => by
      have hlt : j < zs.length := (List.getElem?_eq_some_iff.1 hj).1
      simp only [Nat.zero_add, Array.getD_eq_getD_getElem?]
      rw [Array.getElem?_append_left (by simpa using hlt)]
      simp [hj]
    have hsz : (zs.toArray ++ Array.replicate (fn.ntmps - zs.toArray.size) undef).size = fi.n := by simp; omega
    -- what recover tells
    have key : ∃ (rv : Value) (u' : FrameMode), AVRel φ (recV m) rv ∧ settle u' = .returning ∧
        ((recoverD (c₀ :: cs) = some (rv, { c₀ with mode := u' } :: cs)) ∨ (recoverD (c₀ :: cs) = none ∧ rv = .nilIface ∧ u' = c₀.mode)) := by
      cases m with
      | none =>
        have hu : u = .returning := hu
        subst hu
        exact ⟨.nilIface, .returning, .v _, rfl, .inr ⟨by simp [recoverD, hu0], rfl, hu0.symm⟩⟩
      | some x =>
        obtain ⟨v, hu, hv⟩ := hu
        subst hu
        exact ⟨v, .panicking [{ v, recovered := true }], hv, rfl, .inl (by simp [recoverD, hu0])⟩
    obtain ⟨rv, u', hrv, hset, hrec⟩ := key
    let a0 : Act := { tmps := zs.toArray ++ Array.replicate (fn.ntmps - zs.toArray.size) undef, defers := [] }
    have hsz0 : a0.tmps.size = fi.n := hsz
    let a1 : Act := (a0.put (some d0) rv).put (some d1) rv
    have hev : (a0.put (some d0) rv).eval (.tmp d0) = rv := by
      simp [Act.eval, Act.put, hsz0, hl2]
    have hst1 : TmpsRel φ (putA (some d1) (putA (some d0) (argTmps da.2 0) (recV m)) (recV m)) a1.tmps :=
      TmpsRel.put (TmpsRel.put (a := a0) hst0 hrv fun t ht => by cases ht; rw [hsz0]; exact hl2) hrv fun t ht => by cases ht; rw [put_size, hsz0]; exact hl3
    have hfin : rest.wpS P (bodyPostS P fn c₀ cs fun e u' w' => ∃ r, e = .returned r ∧ ∃ φ' m' M', Q (m', M') ∧ ModeRel φ' m' (settle u') ∧ Rep N φ' M' w' ∧ Ext φ M w φ' M' w') a1 ({ c₀ with mode := u' } :: cs) w := by
      refine wpS_of_wp (evCode_ok (n := fi.n) (ds := []) tok hc hmix rest h h5 ⟨hr, hst1, by rw [put_size, put_size, hsz0], rfl⟩ ?_ ?_)
      · intro x φ' M' w' st' a' hq hs he
        have hres : (results fn a'.tmps).run P w' = .ok (.tuple #[]) w' := by simp [results, h3]
        have fin : Q (none, M') → bodyPostS P fn c₀ cs (fun e u' w' => ∃ r, e = .returned r ∧ ∃ φ' m' M', Q (m', M') ∧ ModeRel φ' m' (settle u') ∧ Rep N φ' M' w' ∧ Ext φ M w φ' M' w') .ret a' ({ c₀ with mode := u' } :: cs) w' :=
          fun hq => ⟨hs.defers, u', rfl, _, hres, _, rfl, φ', none, M', hq, hset, hs.rep, he⟩
        cases x with
        | normal => exact fin hq
        | ret => exact fin hq
        | exit j => exact hq.elim
      · intro v a' w' hd hg
        obtain ⟨_, _, _, hf, _⟩ := hg
        exact hf.elim
    refine wpS_seq (wpS_region ?_)
    rw [show List.range (#[({ dst := some d0, op := .call { callee := .builtin .recover, args := #[], argTypes := at0 }, type := ty0, pos := p0, after := e0, guard := none } : Oper), { dst := some d1, op := .assign (.tmp d0), type := ty1, pos := p1, after := e1, guard := none }] : Array Oper).size = [0, 1] from rfl]
    exact recover_region (by rcases hrec with e | ⟨e1, e2, e3⟩; exact .inl e; exact .inr ⟨e1, e2, by rw [e3]⟩) hev _ hfin

theorem runDs_ok {D : FuncId → Option DKd} (hD : DOk P D) {fi : FI} {base : Nat} {roots : List AV} {st : Tmps} {fn : Func} (h3 : fn.results.toList = fi.res) {tmps : Array Value} {φ0 : Phi} {M0 : Mem} {w0 : World} (hr0 : Rep N φ0 M0 w0) (hb : base = M0.next) {Q : AV × Mem → Prop} {Qp : AV → Mem → Prop} (ds : List DA) :
    ∀ {xs : List Deferred} {m : Option AV} {M : Mem} {φ : Phi} {w : World} {u : FrameMode} (_ : (runDs P tt L big callF D (finD tt fi base roots st) ds m M).holds Q Qp) (_ : TmpsRel φ st tmps) (_ : Rep N φ M w) (_ : Ext φ0 M0 w0 φ M w) (_ : DefsRel φ ds xs) (_ : ModeRel φ m u),
    Leaves P fn tmps (fun e w' => (∃ v, e = .returned v ∧ Good N φ0 M0 w0 Q v w') ∨ (∃ v, e = .panicked [{ v, recovered := false }] ∧ GoodP N φ0 M0 w0 Qp v w')) xs u w := by
  induction ds with
  | nil =>
    intro xs m M φ w u h hst hr he hd hu
    cases hd
    cases m with
    | none =>
      have hu : u = .returning := hu
      subst hu
      obtain ⟨v, hv, hg⟩ := results_ok (P := P) (fn := fn) tok hr0 he hr hst hb (by rw [h3]; exact h)
      exact ⟨v, hv, .inl ⟨v, rfl, hg⟩⟩
    | some x =>
      obtain ⟨v, rfl, hv⟩ := hu
      exact .inr ⟨v, rfl, φ, x, M, h, hv, hr, he⟩
  | cons d ds ih =>
    intro xs m M φ w u h hst hr he hd hu
    cases hd with
    | @cons _ x _ xs hx ht =>
      have h : ((evDef P tt L big callF D d m M).bind fun x => runDs P tt L big callF D (finD tt fi base roots st) ds x.1 x.2).holds Q Qp := h
      rw [T.holds_bind] at h
      obtain ⟨cap, h1, h2⟩ := hx
      obtain ⟨⟨fn', c', hfn, hbody, hname⟩, hcalls⟩ := evDef_ok tok hc hmix hD h hr h2 hu
      obtain ⟨t, a⟩ := x
      simp only at h1 h2
      subst h1
      have hname' : ¬ fn'.name = "runtime.NumGoroutine" := by simpa using hname
      refine leaves_cons (f := d.1) (args := a ++ cap) ?_ ?_ ?_
      · cases m with
        | none => cases hu; simp
        | some x => obtain ⟨v, rfl, _⟩ := hu; simp
      · simp [invoke, callFunc, program, Sem.run, hfn, hbody, hname']
      · rw [show (a ++ cap) = ((a ++ cap).toList).toArray by simp]
        refine hcalls.mono ?_
        rintro e u' w' ⟨r, rfl, φ', m', M', hq, hm, hr', he'⟩
        exact ih hq (hst.mono he'.phi) hr' (he.trans he') (ht.mono he'.phi) hm

theorem evFunD_ok {D : FuncId → Option DKd} (hD : DOk P D) {f : FuncId} {fi : FI} (hf : FIok P f fi) {args : List AV} {M : Mem} {Q : AV × Mem → Prop} {Qp : AV → Mem → Prop}
    (h : (evFunD P tt L big callF D fi args M).holds Q Qp) {φ : Phi} {w : World} {zs : List Value} (hr : Rep N φ M w) (hz : AVsRel φ args zs) :
    Calls P f zs.toArray w fun e w' => (∃ v, e = .returned v ∧ Good N φ M w Q v w') ∨ (∃ v, e = .panicked [{ v, recovered := false }] ∧ GoodP N φ M w Qp v w') := by
  obtain ⟨fn, h1, h2, h3, hn, h4, h5⟩ := hf.ex
  obtain ⟨hle, h⟩ := br_ok h
  rw [forceN_eq] at h
  have hlen : zs.length ≤ fn.ntmps := by rw [hn, ← hz.length]; exact Nat.le_of_ble_eq_true hle
  refine calls_of_wp_defers h1 h2 (evD_ok (n := fi.n) tok hc hmix fi.code h h5 (xs := []) ⟨hr, argTmps_rel args hz 0 _ ?_, ?_, rfl⟩ .nil ?_ ?_ ?_)
  · intro j v hj
    have hlt : j < zs.length := (List.getElem?_eq_some_iff.1 hj).1
    simp only [Nat.zero_add, Array.getD_eq_getD_getElem?]
    rw [Array.getElem?_append_left (by simpa using hlt)]
    simp [hj]
  · simp; omega
  · intro ds' xs' φ' M' w' st' a' hq hs hd he
    show Leaves P fn a'.tmps _ a'.defers .returning w'
    rw [hs.defers]
    exact runDs_ok tok hc hmix hD h3 hr rfl ds' hq hs.tmps hs.rep he hd rfl
  · intro ds' xs' φ' M' w' st' a' hq hs hd he
    show Leaves P fn a'.tmps _ a'.defers .returning w'
    rw [hs.defers]
    exact runDs_ok tok hc hmix hD h3 hr rfl ds' hq hs.tmps hs.rep he hd rfl
  · intro ds' xs' φ' M' w' st' a' x v hq hst hdef hr' hv hd he
    show Leaves P fn a'.tmps _ a'.defers (.panicking [{ v, recovered := false }]) w'
    rw [hdef]
    exact runDs_ok tok hc hmix hD h3 hr rfl ds' hq hst hr' he hd ⟨v, rfl, hv⟩

/-- The contract of a function that defers. -/
theorem sOk_defer {D : FuncId → Option DKd} (hD : DOk P D) {n : FuncId} {fi : FI} (hf : FIok P n fi) {R : Nat → Option (List AV → Mem → T (AV × Mem))} (hR : SOk P N R) :
    SOk P N (fun f => bif2 (Nat.beq f n) (some (evFunD P tt L big callF D fi)) (R f)) := by
  intro f s hs0 args M Q Qp hq
  have hs : bif2 (Nat.beq f n) (some (evFunD P tt L big callF D fi)) (R f) = some s := hs0
  clear hs0
  rw [bif2_eq] at hs
  split at hs
  · rename_i e
    have e : f = n := Nat.eq_of_beq_eq_true e
    subst e
    cases hs
    obtain ⟨fn, h1, h2, h3, hn, h4, h5⟩ := hf.ex
    exact .inl ⟨⟨fn, fi.code, h1, h2, h4⟩, fun φ w zs hr hz => evFunD_ok tok hc hmix hD hf hq hr hz⟩
  · exact hR f s hs args M Q Qp hq
end
end Go.Eng

set_option autoImplicit false
set_option maxRecDepth 100000
namespace Go.Eng
open Go

/-! ## Floats as words -/
noncomputable abbrev fo (a b : Nat) : Option Ordering := Ieee.Format.order (FloatKind.format FloatKind.f64) a b
def nanW (x : Nat) : Bool := decide (9218868437227405312 < x % 9223372036854775808)
theorem nanT {x : Nat} : nanW x = true ↔ 9218868437227405312 < x % 9223372036854775808 := by simp [nanW]
theorem nanF {x : Nat} : nanW x = false ↔ x % 9223372036854775808 ≤ 9218868437227405312 := by simp [nanW]
/-- A word that stands for a number. -/
def numW (x : Nat) : Prop := x % 9223372036854775808 < 9218868437227405312
theorem numW.nan {x : Nat} (h : numW x) : nanW x = false := nanF.2 (Nat.le_of_lt h)
def ngW (x : Nat) : Bool := x / 9223372036854775808 % 2 == 1
def magW (x : Nat) : Nat := if x % 9223372036854775808 < 4503599627370496 then x % 9223372036854775808 else 4503599627370496 + x % 9223372036854775808 % 4503599627370496
def plW (x : Nat) : Int := if x % 9223372036854775808 < 4503599627370496 then -1074 else -1074 + (x % 9223372036854775808 / 4503599627370496 - 1 : Nat)
theorem read_raw (x : Nat) : (FloatKind.format .f64).read x = (if x % 9223372036854775808 < 4503599627370496 then .number (ngW x) (x % 9223372036854775808) (-1074)
    else if x % 9223372036854775808 < 9218868437227405312 then .number (ngW x) (4503599627370496 + x % 9223372036854775808 % 4503599627370496) (-1074 + (x % 9223372036854775808 / 4503599627370496 - 1 : Nat))
    else if x % 9223372036854775808 = 9218868437227405312 then .infinity (ngW x) else .nan (ngW x) (x % 9223372036854775808 - 9218868437227405312)) := by kernel_rfl
theorem read_num {x : Nat} (h : numW x) : (FloatKind.format .f64).read x = .number (ngW x) (magW x) (plW x) := by
  rw [read_raw]; unfold magW plW; unfold numW at h
  split
  · rfl
  · rfl
theorem read_inf {x : Nat} (h : x % 9223372036854775808 = 9218868437227405312) : (FloatKind.format .f64).read x = .infinity (ngW x) := by
  rw [read_raw, if_neg (by omega), if_neg (by omega), if_pos h]
theorem read_nan {x : Nat} (h : nanW x = true) : ∃ t, (FloatKind.format .f64).read x = .nan (ngW x) t := by
  have := nanT.1 h
  rw [read_raw, if_neg (by omega), if_neg (by omega), if_neg (by omega)]; exact ⟨_, rfl⟩
theorem mag_zero {x : Nat} : magW x = 0 ↔ x % 9223372036854775808 = 0 := by
  unfold magW; split <;> omega
theorem cases_w (x : Nat) : numW x ∨ x % 9223372036854775808 = 9218868437227405312 ∨ nanW x = true := by
  rw [nanT]; unfold numW; omega
theorem cmp_selfN (n : Nat) : compare n n = .eq := by simp
theorem cmp_selfI (n : Int) : compare n n = .eq := by simp
theorem fo_self (x : Nat) : (fo x x == some .eq) = !nanW x := by
  unfold fo Ieee.Format.order
  rcases cases_w x with h | h | h
  · rw [read_num h, numW.nan h]
    simp [Ieee.Datum.order]
  · rw [read_inf h, nanF.2 (by omega)]
    simp [Ieee.Datum.order]
  · obtain ⟨t, e⟩ := read_nan h
    rw [e, h]; rfl

/-! ## What arithmetic gives is no NaN -/
theorem word_le {s : Bool} {r : Nat} (h : r ≤ 9218868437227405312) : nanW ((FloatKind.format .f64).word s r) = false := by
  have e : (FloatKind.format .f64).word s r = if s then 9223372036854775808 + r else r := by kernel_rfl
  rw [e, nanF]; split <;> omega
theorem nearest_nan (s : Bool) (m : Nat) (p : Int) : nanW ((FloatKind.format .f64).nearest s m p) = false := by
  unfold Ieee.Format.nearest
  split
  · exact word_le (by omega)
  · refine word_le ?_
    have e : (FloatKind.format .f64).infRung = 9218868437227405312 := by kernel_rfl
    simp only [e]
    exact Nat.min_le_right _ _
theorem write_num (s : Bool) (m : Nat) (p : Int) : nanW ((FloatKind.format .f64).write (.number s m p)) = false := nearest_nan s m p
theorem write_inf (s : Bool) : nanW ((FloatKind.format .f64).write (.infinity s)) = false := by
  have e : (FloatKind.format .f64).write (.infinity s) = (FloatKind.format .f64).word s 9218868437227405312 := by kernel_rfl
  rw [e]; exact word_le (by omega)
theorem write_lt64 (d : Ieee.Datum) : (FloatKind.format .f64).write d < 18446744073709551616 := Ieee.Format.write_lt _ d
noncomputable def subF (x y : Nat) : Nat := (floatBits .sub .f64 x y).getD 0
noncomputable def mulF (x y : Nat) : Nat := (floatBits .mul .f64 x y).getD 0
noncomputable def addF (x y : Nat) : Nat := (floatBits .add .f64 x y).getD 0
noncomputable def divF (x y : Nat) : Nat := (floatBits .quo .f64 x y).getD 0
theorem some_of {d : Ieee.Datum} {o : Option Nat} (h : o = some ((FloatKind.format .f64).write d)) (hd : nanW ((FloatKind.format .f64).write d) = false) : o = some (o.getD 0) ∧ nanW (o.getD 0) = false ∧ o.getD 0 < 18446744073709551616 := by
  subst h; exact ⟨rfl, hd, write_lt64 d⟩
theorem sub_some {x y : Nat} (hx : numW x) (hy : numW y) : floatBits .sub .f64 x y = some (subF x y) ∧ nanW (subF x y) = false ∧ subF x y < 18446744073709551616 := by
  unfold subF
  show ((FloatKind.format .f64).sub x y) = some (((FloatKind.format .f64).sub x y).getD 0) ∧ nanW (((FloatKind.format .f64).sub x y).getD 0) = false ∧ ((FloatKind.format .f64).sub x y).getD 0 < 18446744073709551616
  unfold Ieee.Format.sub
  rw [read_num hx, read_num hy]
  exact some_of rfl (write_num _ _ _)
theorem add_some {x y : Nat} (hx : numW x) (hy : nanW y = false) : floatBits .add .f64 x y = some (addF x y) ∧ nanW (addF x y) = false ∧ addF x y < 18446744073709551616 := by
  unfold addF
  show ((FloatKind.format .f64).add x y) = some (((FloatKind.format .f64).add x y).getD 0) ∧ nanW (((FloatKind.format .f64).add x y).getD 0) = false ∧ ((FloatKind.format .f64).add x y).getD 0 < 18446744073709551616
  unfold Ieee.Format.add
  rw [read_num hx]
  rcases cases_w y with h | h | h
  · rw [read_num h]; exact some_of rfl (write_num _ _ _)
  · rw [read_inf h]; exact some_of rfl (write_inf _)
  · rw [h] at hy; cases hy
theorem mul_some {x y : Nat} (hx : numW x) (h0 : x % 9223372036854775808 ≠ 0) (hy : nanW y = false) : floatBits .mul .f64 x y = some (mulF x y) ∧ nanW (mulF x y) = false ∧ mulF x y < 18446744073709551616 := by
  have hm : magW x ≠ 0 := fun h => h0 (mag_zero.1 h)
  unfold mulF
  show ((FloatKind.format .f64).mul x y) = some (((FloatKind.format .f64).mul x y).getD 0) ∧ nanW (((FloatKind.format .f64).mul x y).getD 0) = false ∧ ((FloatKind.format .f64).mul x y).getD 0 < 18446744073709551616
  unfold Ieee.Format.mul
  rw [read_num hx]
  rcases cases_w y with h | h | h
  · rw [read_num h]; exact some_of rfl (write_num _ _ _)
  · rw [read_inf h]
    have e : Ieee.Datum.product (.number (ngW x) (magW x) (plW x)) (.infinity (ngW y)) = some (.infinity (ngW y ^^ ngW x)) := by
      show (if magW x = 0 then none else some (Ieee.Datum.infinity (ngW y ^^ ngW x))) = _
      exact if_neg hm
    rw [e]; exact some_of rfl (write_inf _)
  · rw [h] at hy; cases hy

/-! ## Values that the kernel does not look into -/
theorem opq_ex {α : Type} (a : α) : ∃ b : α, b = a := ⟨a, rfl⟩
noncomputable def opq {α : Type} (a : α) : α := Classical.choose (opq_ex a)
theorem opq_eq {α : Type} (a : α) : opq a = a := Classical.choose_spec (opq_ex a)
noncomputable def uI (n : Nat) : Int := opq (n : Int)
theorem uI_eq (n : Nat) : uI n = n := opq_eq _

/-! ## The page's numbers -/
def bitsV (x : Nat) : Int := if nanW x = true then 18446744073709551615 else if x < 9223372036854775808 then x + 9223372036854775808 else 18446744073709551615 - x
def cmpV (x y : Nat) : Int := if bitsV x < bitsV y then -1 else if bitsV x > bitsV y then 1 else 0
def clampV (x a b : Nat) : Nat := if nanW x = true ∨ nanW a = true ∨ nanW b = true then 9221120237041090561 else if cmpV x a < 0 ∨ cmpV a b > 0 then a else if cmpV x b > 0 then b else x
abbrev f1W : Nat := 4607182418800017408
theorem bits_nan {x : Nat} (h : nanW x = true) : bitsV x = 18446744073709551615 := if_pos h
theorem bits_lo {x : Nat} (h : nanW x = false) (hx : x < 9223372036854775808) : bitsV x = x + 9223372036854775808 := by
  unfold bitsV; rw [h]; simp [hx]
theorem bits_hi {x : Nat} (h : nanW x = false) (hx : ¬ x < 9223372036854775808) : bitsV x = 18446744073709551615 - x := by
  unfold bitsV; rw [h]; simp [hx]
theorem bits_one : bitsV f1W = 13830554455654793216 := by decide
theorem bits_zero : bitsV 0 = 9223372036854775808 := by decide
theorem cmp_lt {x y : Nat} : cmpV x y < 0 ↔ bitsV x < bitsV y := by unfold cmpV; repeat' split
                                                                    all_goals omega
theorem cmp_gt {x y : Nat} : cmpV x y > 0 ↔ bitsV x > bitsV y := by unfold cmpV; repeat' split
                                                                    all_goals omega
theorem bits_range {x : Nat} (hx : x < 18446744073709551616) : 0 ≤ bitsV x ∧ bitsV x ≤ 18446744073709551615 := by
  unfold bitsV; repeat' split
  all_goals omega
/-- From 0 to 1 in the order of all. -/
theorem unit_word {x : Nat} (hx : x < 18446744073709551616) (h0 : bitsV 0 ≤ bitsV x) (h1 : bitsV x ≤ bitsV f1W) : nanW x = false ∧ x ≤ f1W := by
  rw [bits_zero] at h0
  rw [bits_one] at h1
  cases hn : nanW x with
  | true => rw [bits_nan hn] at h1; omega
  | false =>
    refine ⟨rfl, ?_⟩
    by_cases h : x < 9223372036854775808
    · rw [bits_lo hn h] at h1; show x ≤ 4607182418800017408; omega
    · rw [bits_hi hn h] at h0; omega
theorem unit_num {x : Nat} (h : x ≤ f1W) : numW x := by
  have : x ≤ 4607182418800017408 := h
  unfold numW; omega
theorem clamp_unit {x : Nat} (hx : x < 18446744073709551616) (hn : nanW x = false) : clampV x 0 f1W ≤ f1W := by
  unfold clampV
  rw [if_neg (by simp [hn]; decide)]
  split
  · decide
  · rename_i h
    have h' : ¬ cmpV x 0 < 0 := fun e => h (.inl e)
    rw [cmp_lt] at h'
    split
    · exact Nat.le_refl _
    · rename_i h2
      rw [cmp_gt] at h2
      exact (unit_word hx (by omega) (by omega)).2
theorem clamp_nan {x a b : Nat} (h : nanW x = true) : clampV x a b = 9221120237041090561 := if_pos (.inl h)
theorem clamp_lt {x a b : Nat} (hx : x < 18446744073709551616) (ha : a < 18446744073709551616) (hb : b < 18446744073709551616) : clampV x a b < 18446744073709551616 := by
  unfold clampV; repeat' split
  all_goals omega
/-- Equal to zero, from 0 to 1: it is zero. -/
theorem unit_zero {x : Nat} (h : x ≤ f1W) : (fo x 0 == some .eq) = decide (x = 0) := by
  have h1 : x ≤ 4607182418800017408 := h
  by_cases h0 : x = 0
  · subst h0; rw [fo_self]; rfl
  · unfold fo Ieee.Format.order
    have hm : magW x ≠ 0 := fun e => h0 (by have := mag_zero.1 e; omega)
    have hg : ngW x = false := by
      unfold ngW
      have : x / 9223372036854775808 = 0 := by omega
      rw [this]; rfl
    have e0 : (FloatKind.format .f64).read 0 = .number false 0 (-1074) := by kernel_rfl
    rw [read_num (unit_num h), e0, hg]
    rw [decide_eq_false h0]
    simp only [Ieee.Datum.order]
    have hlt : ∀ (m k k2 : Nat), m ≠ 0 → (some (compare (Ieee.signed false m k) (Ieee.signed false 0 k2)) == some Ordering.eq) = false := by
      intro m k k2 hm
      have : compare (Ieee.signed false m k) (Ieee.signed false 0 k2) ≠ .eq := by
        intro e
        have := Std.LawfulEqOrd.eq_of_compare e
        simp only [Ieee.signed, Bool.false_eq_true, if_false] at this
        have : m <<< k = 0 <<< k2 := by exact_mod_cast this
        rw [Nat.shiftLeft_eq, Nat.shiftLeft_eq, Nat.zero_mul] at this
        rcases Nat.mul_eq_zero.1 this with h | h
        · exact hm h
        · have := Nat.two_pow_pos k; omega
      simpa using this
    exact hlt _ _ _ hm
/-- A weight. -/
theorem weight_num {w : Nat} (h0 : (fo w 0 == some .gt) = true) (h1 : (fo w f1W == some .lt || fo w f1W == some .eq) = true) : numW w ∧ w % 9223372036854775808 ≠ 0 := by
  have e0 : (FloatKind.format .f64).read 0 = .number false 0 (-1074) := by kernel_rfl
  have e1 : (FloatKind.format .f64).read f1W = .number false 4503599627370496 (-52) := by kernel_rfl
  unfold fo Ieee.Format.order at h0 h1
  rw [e0] at h0
  rw [e1] at h1
  rcases cases_w w with h | h | h
  · refine ⟨h, fun hz => ?_⟩
    rw [read_num h, mag_zero.2 hz] at h0
    have hs : ∀ s k, Ieee.signed s 0 k = 0 := by intro s k; cases s <;> simp [Ieee.signed]
    simp only [Ieee.Datum.order, hs] at h0
    rw [cmp_selfI] at h0
    cases h0
  · rw [read_inf h] at h0 h1
    cases hs : ngW w with
    | true => rw [hs] at h0; cases h0
    | false => rw [hs] at h1; cases h1
  · obtain ⟨t, e⟩ := read_nan h
    rw [e] at h0; cases h0

noncomputable def bitsO (x : Nat) : Int := opq (bitsV x)
theorem bitsO_eq (x : Nat) : bitsO x = bitsV x := opq_eq _
noncomputable def cmpO (x y : Nat) : Int := opq (cmpV x y)
theorem cmpO_eq (x y : Nat) : cmpO x y = cmpV x y := opq_eq _
noncomputable def clampO (x a b : Nat) : Nat := opq (clampV x a b)
theorem clampO_eq (x a b : Nat) : clampO x a b = clampV x a b := opq_eq _
/-! ## The page's healths -/
def healthV (s : Nat) (c : Int) : Bool := if c < 0 ∨ c > 1099511627776 then false else if c = 0 then nanW s else decide (¬ cmpV s 0 < 0 ∧ ¬ cmpV s f1W > 0)
noncomputable def healthO (s : Nat) (c : Int) : Bool := opq (healthV s c)
theorem healthO_eq (s : Nat) (c : Int) : healthO s c = healthV s c := opq_eq _
/-- What makes a weight. -/
noncomputable def weightV (w : Nat) : Bool := (fo w 0 == some .gt) && (fo w f1W == some .lt || fo w f1W == some .eq)
noncomputable def weightO (w : Nat) : Bool := opq (weightV w)
theorem weightO_eq (w : Nat) : weightO w = weightV w := opq_eq _
noncomputable def noteV (s : Nat) (c : Int) (x w : Nat) : Nat := if nanW x = true then s else if c = 0 then clampV x 0 f1W else clampV (addF s (mulF w (subF (clampV x 0 f1W) s))) 0 f1W
noncomputable def noteO (s : Nat) (c : Int) (x w : Nat) : Nat := opq (noteV s c x w)
theorem noteO_eq (s : Nat) (c : Int) (x w : Nat) : noteO s c x w = noteV s c x w := opq_eq _
def noteN (c : Int) (x : Nat) : Int := if nanW x = true then c else if c + 1 < 1099511627776 then c + 1 else 1099511627776
noncomputable def noteC (c : Int) (x : Nat) : Int := opq (noteN c x)
theorem noteC_eq (c : Int) (x : Nat) : noteC c x = noteN c x := opq_eq _
noncomputable def goodO (s : Nat) (c : Int) (f : Nat) : Bool := opq (decide (c = 0) || !(fo s f == some .lt))
theorem goodO_eq (s : Nat) (c : Int) (f : Nat) : goodO s c f = (decide (c = 0) || !(fo s f == some .lt)) := opq_eq _
theorem nan_of {x : Nat} {b : Bool} (h : (fo x x == some .eq) = b) : nanW x = !b := by rw [fo_self] at h; rw [← h, Bool.not_not]

theorem isnum_of {x : Nat} (h : (fo x x == some .eq) = true) : nanW x = false := nan_of h
theorem isnan_of {x : Nat} (h : (fo x x == some .eq) = false) : nanW x = true := nan_of h
theorem wr_i64 {n : Int} (h : -9223372036854775808 ≤ n) (h' : n < 9223372036854775808) : wr .i64 n = n := by
  show wrapS 18446744073709551616 9223372036854775808 n = n
  unfold wrapS
  cases hd : decide ((9223372036854775808 : Int) ≤ n % 18446744073709551616) with
  | true => have := of_decide_eq_true hd; show n % 18446744073709551616 - 18446744073709551616 = n; omega
  | false => have := of_decide_eq_false hd; show n % 18446744073709551616 = n; omega

/-! ## Leaves -/
theorem b_nan {x : Nat} (h : (fo x x == some .eq) = false) : (18446744073709551615 : Int) = bitsO x := by
  rw [bitsO_eq, bits_nan (nan_of h)]
theorem c_lt {x y : Nat} (h : bitsO x < bitsO y) : (-1 : Int) = cmpO x y := by
  rw [bitsO_eq, bitsO_eq] at h; rw [cmpO_eq]; unfold cmpV; rw [if_pos h]
theorem c_gt {x y : Nat} (h : ¬ bitsO x < bitsO y) (h2 : bitsO x > bitsO y) : (1 : Int) = cmpO x y := by
  rw [bitsO_eq, bitsO_eq] at h h2; rw [cmpO_eq]; unfold cmpV; rw [if_neg h, if_pos h2]
theorem c_eq {x y : Nat} (h : ¬ bitsO x < bitsO y) (h2 : ¬ bitsO x > bitsO y) : (0 : Int) = cmpO x y := by
  rw [bitsO_eq, bitsO_eq] at h h2; rw [cmpO_eq]; unfold cmpV; rw [if_neg h, if_neg h2]
theorem clampO_lt {x a b : Nat} (hx : x < 18446744073709551616) (ha : a < 18446744073709551616) (hb : b < 18446744073709551616) : clampO x a b < 18446744073709551616 := by rw [clampO_eq]; exact clamp_lt hx ha hb
/-- Clamped from 0 to 1. -/
theorem clamp_zero {x : Nat} (hx : x < 18446744073709551616) (h : (fo (clampO x 0 f1W) 0 == some .eq) = true) : (0 : Nat) = clampO x 0 f1W := by
  cases hn : nanW x with
  | true => rw [clampO_eq, clamp_nan hn] at h; exact absurd h (by decide +kernel)
  | false =>
    have h1 := clamp_unit hx hn
    rw [← clampO_eq] at h1
    rw [unit_zero h1] at h
    exact (of_decide_eq_true h).symm
theorem clamp_isnan {x : Nat} (hx : x < 18446744073709551616) {b : Bool} (h : (fo (clampO x 0 f1W) (clampO x 0 f1W) == some .eq) = b) : nanW x = !b := by
  rw [fo_self, clampO_eq] at h
  cases hn : nanW x with
  | true => rw [clamp_nan hn] at h; rw [← h]; decide
  | false =>
    rw [(unit_num (clamp_unit hx hn)).nan] at h
    rw [← h]; rfl
theorem clamp_isnum {x : Nat} (hx : x < 18446744073709551616) (h : (fo (clampO x 0 f1W) (clampO x 0 f1W) == some .eq) = true) : nanW x = false := clamp_isnan hx h
theorem clamp_nonum {x : Nat} (hx : x < 18446744073709551616) (h : (fo (clampO x 0 f1W) (clampO x 0 f1W) == some .eq) = false) : nanW x = true := clamp_isnan hx h
/-- A health that may be. -/
theorem health_of {s : Nat} {c : Int} : healthO s c = true ↔ 0 ≤ c ∧ c ≤ 1099511627776 ∧ (c = 0 → nanW s = true) ∧ (c ≠ 0 → ¬ cmpV s 0 < 0 ∧ ¬ cmpV s f1W > 0) := by
  rw [healthO_eq]; unfold healthV
  split
  · constructor
    · intro h; cases h
    · intro h; omega
  · split
    · constructor
      · intro h; exact ⟨by omega, by omega, fun _ => h, fun h' => absurd ‹c = 0› h'⟩
      · intro h; exact h.2.2.1 ‹c = 0›
    · rw [decide_eq_true_eq]
      constructor
      · intro h; exact ⟨by omega, by omega, fun h' => absurd h' ‹¬ c = 0›, fun _ => h⟩
      · intro h; exact h.2.2.2 ‹¬ c = 0›
theorem health_unit {s : Nat} {c : Int} (hs : s < 18446744073709551616) (h : healthO s c = true) (h0 : c ≠ 0) : nanW s = false ∧ s ≤ f1W := by
  obtain ⟨_, _, _, h1⟩ := health_of.1 h
  obtain ⟨h1, h2⟩ := h1 h0
  rw [cmp_lt] at h1
  rw [cmp_gt] at h2
  exact unit_word hs (by omega) (by omega)
theorem same_clamp {s : Nat} (hs : s < 18446744073709551616) (hn : nanW s = false) : (cmpO s (clampO s 0 f1W) == 0) = decide (¬ cmpV s 0 < 0 ∧ ¬ cmpV s f1W > 0) := by
  rw [cmpO_eq, clampO_eq]
  have hz : nanW 0 = false := by decide
  have h1 : nanW f1W = false := by decide
  have h01 : ¬ cmpV 0 f1W > 0 := by decide
  unfold clampV
  rw [if_neg (by simp [hn, hz, h1])]
  split
  · rename_i h
    rcases h with h | h
    · rw [decide_eq_false (fun h' => h'.1 h)]
      have : cmpV s 0 ≠ 0 := by omega
      simpa using this
    · exact absurd h h01
  · rename_i h
    split
    · rename_i h2
      rw [decide_eq_false (fun h' => h'.2 h2)]
      have : cmpV s f1W ≠ 0 := by omega
      simpa using this
    · rename_i h2
      rw [decide_eq_true ⟨fun h' => h (.inl h'), h2⟩]
      have : cmpV s s = 0 := by unfold cmpV; simp
      simpa using this
/-- The arithmetic of a note. -/
theorem note_arith {s x w : Nat} {c : Int} (hs : s < 18446744073709551616) (hx : x < 18446744073709551616) (h : healthO s c = true) (h0 : c ≠ 0) (hn : nanW x = false) (hw : weightO w = true) :
    (floatBits .sub .f64 (clampO x 0 f1W) s).isSome = true ∧ (floatBits .mul .f64 w (subF (clampO x 0 f1W) s)).isSome = true ∧ (floatBits .add .f64 s (mulF w (subF (clampO x 0 f1W) s))).isSome = true ∧ addF s (mulF w (subF (clampO x 0 f1W) s)) < 18446744073709551616 := by
  obtain ⟨h1, h2⟩ := health_unit hs h h0
  have hc := clamp_unit hx hn
  rw [← clampO_eq] at hc
  rw [weightO_eq] at hw
  unfold weightV at hw
  rw [Bool.and_eq_true] at hw
  obtain ⟨hw1, hw2⟩ := weight_num hw.1 hw.2
  obtain ⟨a1, a2, a3⟩ := sub_some (unit_num hc) (unit_num h2)
  obtain ⟨b1, b2, b3⟩ := mul_some hw1 hw2 a2
  obtain ⟨c1, c2, c3⟩ := add_some (unit_num h2) b2
  rw [a1, b1, c1]
  exact ⟨rfl, rfl, rfl, c3⟩
theorem note_nan {s x w : Nat} {c : Int} (hn : nanW x = true) : s = noteO s c x w ∧ c = noteC c x := by
  rw [noteO_eq, noteC_eq]; unfold noteV noteN; simp [hn]
theorem note_first {s x w : Nat} {c : Int} (hn : nanW x = false) (h0 : c = 0) : clampO x 0 f1W = noteO s c x w ∧ 1 = noteC c x := by
  rw [noteO_eq, noteC_eq, clampO_eq]; unfold noteV noteN; simp [hn, h0]
theorem note_more {s x w : Nat} {c : Int} (hn : nanW x = false) (h0 : c ≠ 0) : clampO (addF s (mulF w (subF (clampO x 0 f1W) s))) 0 f1W = noteO s c x w := by
  rw [noteO_eq, clampO_eq, clampO_eq]; unfold noteV; simp [hn, h0]
theorem note_cnt {x : Nat} {c : Int} (hn : nanW x = false) : (if c + 1 < 1099511627776 then c + 1 else 1099511627776) = noteC c x := by
  rw [noteC_eq]; unfold noteN; simp [hn]
theorem bits_or {x : Nat} (h : (x : Int) < 9223372036854775808) : wr .u64 (↑(BitVec.ofInt 64 (x : Int) ||| BitVec.ofInt 64 9223372036854775808).toNat) = (x : Int) + 9223372036854775808 := by
  have h1 : x < 9223372036854775808 := by omega
  have e : (BitVec.ofInt 64 (x : Int) ||| BitVec.ofInt 64 9223372036854775808).toNat = x + 9223372036854775808 := by
    have e1 : (BitVec.ofInt 64 (x : Int)).toNat = x := by simp [BitVec.toNat_ofInt]; omega
    have e2 : (BitVec.ofInt 64 9223372036854775808).toNat = 9223372036854775808 := by decide
    rw [BitVec.toNat_or, e1, e2]
    have := Nat.two_pow_add_eq_or_of_lt (i := 63) (b := x) (by omega) 1
    rw [Nat.or_comm]
    simpa [Nat.add_comm] using this.symm
  rw [e]
  show ((x + 9223372036854775808 : Nat) : Int) % 18446744073709551616 = _
  omega
theorem bits_xor {x : Nat} (h : x < 18446744073709551616) : wr .u64 (↑(BitVec.toNat (BitVec.ofInt 64 18446744073709551615 ^^^ BitVec.ofInt 64 (x : Int)))) = 18446744073709551615 - (x : Int) := by
  have e : BitVec.ofInt 64 18446744073709551615 ^^^ BitVec.ofInt 64 (x : Int) = ~~~ (BitVec.ofInt 64 (x : Int)) := by
    have : BitVec.ofInt 64 18446744073709551615 = BitVec.allOnes 64 := by decide
    rw [this, BitVec.allOnes_xor]
  have e1 : (BitVec.ofInt 64 (x : Int)).toNat = x := by simp [BitVec.toNat_ofInt]; omega
  rw [e, BitVec.toNat_not, e1]
  show ((2 ^ 64 - 1 - x : Nat) : Int) % 18446744073709551616 = _
  omega
theorem note_cnt2 {s x : Nat} {c : Int} (h : healthO s c = true) (hn : nanW x = false) : (if (1099511627776 : Int) < wr .i64 (c + 1) then 1099511627776 else wr .i64 (c + 1)) = noteC c x := by
  obtain ⟨h0, h1, _⟩ := health_of.1 h
  rw [wr_i64 (by omega) (by omega), noteC_eq]
  unfold noteN
  rw [hn]
  simp only [Bool.false_eq_true, if_false]
  repeat' split
  all_goals omega
theorem health_zero {s : Nat} {c : Int} (h : healthO s c = true) (h0 : ¬ c > 0) : c = 0 := by
  obtain ⟨h1, _⟩ := health_of.1 h
  omega
/-- What is told of a health. -/
theorem hm_none {s : Nat} {c : Int} (h0 : c = 0) : (!(fo s s == some .eq)) = healthO s c := by
  subst h0; rw [healthO_eq, fo_self, Bool.not_not]; rfl
theorem hm_bad {s : Nat} {c : Int} (h : c < 0 ∨ c > 1099511627776) : false = healthO s c := by
  rw [healthO_eq]; unfold healthV; rw [if_pos h]
theorem hm_eq {s : Nat} {c : Int} (hs : s < 18446744073709551616) (h : c > 0) (h1 : c ≤ 1099511627776) : ((cmpO s (clampO s 0 f1W) == 0) && (fo s s == some .eq)) = healthO s c := by
  rw [healthO_eq, fo_self]; unfold healthV; rw [if_neg (by omega), if_neg (by omega)]
  cases hn : nanW s with
  | true =>
    rw [Bool.not_true, Bool.and_false]
    symm
    refine decide_eq_false fun h => h.2 ?_
    rw [cmp_gt, bits_nan hn, bits_one]; decide
  | false => rw [same_clamp hs hn]; simp
theorem hm_yes {s : Nat} {c : Int} (hs : s < 18446744073709551616) (h : c > 0) (h1 : c ≤ 1099511627776) (h4 : cmpO s (clampO s 0 f1W) = 0) : (fo s s == some .eq) = healthO s c := by
  rw [← hm_eq hs h h1, h4]; rfl
theorem hm_no {s : Nat} {c : Int} (hs : s < 18446744073709551616) (h : c > 0) (h1 : c ≤ 1099511627776) (h4 : cmpO s (clampO s 0 f1W) ≠ 0) : false = healthO s c := by
  rw [← hm_eq hs h h1]; simp [h4]
theorem hm_low {s : Nat} {c : Int} (h0 : c ≠ 0) (h4 : ¬ cmpO s 0 ≥ 0) : false = healthO s c := by
  rw [cmpO_eq] at h4
  rw [healthO_eq]; unfold healthV
  split
  · rfl
  · rw [decide_eq_false (fun h => h.1 (by omega))]
theorem hm_ref {s : Nat} {c : Int} (h : c ≥ 0) (h1 : c ≤ 1099511627776) (h0 : c ≠ 0) (h4 : cmpO s 0 ≥ 0) : decide (cmpO s f1W ≤ 0) = healthO s c := by
  rw [cmpO_eq] at h4
  rw [healthO_eq, cmpO_eq]; unfold healthV; rw [if_neg (by omega), if_neg h0]
  exact decide_eq_decide.2 ⟨fun h => ⟨by omega, by omega⟩, fun h => by omega⟩
theorem good_zero {s f : Nat} {c : Int} (h : c = 0) : true = goodO s c f := by rw [goodO_eq]; simp [h]
theorem good_more {s f : Nat} {c : Int} (h : c ≠ 0) : (!(fo s f == some .lt)) = goodO s c f := by rw [goodO_eq]; simp [h]
theorem good_nan {s f : Nat} {c : Int} (h : (fo f f == some .eq) = false) : true = goodO s c f := by
  have e : (fo s f == some .lt) = false := by
    obtain ⟨t, e⟩ := read_nan (isnan_of h)
    unfold fo Ieee.Format.order
    rw [e]
    generalize (FloatKind.format .f64).read s = d
    cases d <;> rfl
  rw [goodO_eq, e]; simp
theorem cl_nan {x a b : Nat} (h : (fo x x == some .eq) = false ∨ (fo a a == some .eq) = false ∨ (fo b b == some .eq) = false) : (9221120237041090561 : Nat) = clampO x a b := by
  rw [clampO_eq]; unfold clampV
  rw [if_pos]
  rcases h with h | h | h
  · exact .inl (isnan_of h)
  · exact .inr (.inl (isnan_of h))
  · exact .inr (.inr (isnan_of h))
theorem cl_num {x a b : Nat} (h1 : (fo x x == some .eq) = true) (h2 : (fo a a == some .eq) = true) (h3 : (fo b b == some .eq) = true) : clampO x a b = if cmpO x a < 0 ∨ cmpO a b > 0 then a else if cmpO x b > 0 then b else x := by
  rw [clampO_eq, cmpO_eq, cmpO_eq, cmpO_eq]; unfold clampV
  rw [if_neg]
  rw [isnum_of h1, isnum_of h2, isnum_of h3]; simp
theorem cl_lo {x a b : Nat} (h1 : (fo x x == some .eq) = true) (h2 : (fo a a == some .eq) = true) (h3 : (fo b b == some .eq) = true) (h : cmpO x a < 0 ∨ cmpO a b > 0) : a = clampO x a b := by rw [cl_num h1 h2 h3, if_pos h]
theorem cl_hi {x a b : Nat} (h1 : (fo x x == some .eq) = true) (h2 : (fo a a == some .eq) = true) (h3 : (fo b b == some .eq) = true) (h : ¬ cmpO x a < 0) (h' : ¬ cmpO a b > 0) (h4 : cmpO x b > 0) : b = clampO x a b := by rw [cl_num h1 h2 h3, if_neg (by omega), if_pos h4]
theorem cl_id {x a b : Nat} (h1 : (fo x x == some .eq) = true) (h2 : (fo a a == some .eq) = true) (h3 : (fo b b == some .eq) = true) (h : ¬ cmpO x a < 0) (h' : ¬ cmpO a b > 0) (h4 : ¬ cmpO x b > 0) : x = clampO x a b := by rw [cl_num h1 h2 h3, if_neg (by omega), if_neg h4]
theorem eqf_same (x : Nat) : (uI x == uI x) = true := by simp
theorem eqf_abs {b c : Bool} (h : b = true) (h' : b = false) : c = true := by rw [h] at h'; cases h'
theorem eqf_nan {x : Nat} (h : (fo x x == some .eq) = false) : (fo x x != some .eq) = true := by rw [bne, h]; rfl
theorem weight_of {w : Nat} (h0 : (fo w 0 == some .gt) = true) (h1 : (fo w f1W == some .lt || fo w f1W == some .eq) = true) : weightO w = true := by
  rw [weightO_eq]; unfold weightV; rw [h0, h1]; rfl
theorem noteO_lt {s x w : Nat} {c : Int} (hs : s < 18446744073709551616) (hx : x < 18446744073709551616) (h : healthO s c = true) (hw : weightO w = true) : noteO s c x w < 18446744073709551616 := by
  rw [noteO_eq]; unfold noteV
  split
  · exact hs
  · rename_i hn
    have hn : nanW x = false := by simpa using hn
    split
    · exact clamp_lt hx (by decide) (by decide)
    · rename_i h0
      have := (note_arith hs hx h h0 hn hw).2.2.2
      rw [clampO_eq] at this
      exact clamp_lt this (by decide) (by decide)
/-- A breaker that may be. -/
def brkV (st f u : Int) (s : Nat) (c : Int) : Bool := decide (0 ≤ st ∧ st ≤ 2 ∧ 0 ≤ f ∧ f ≤ 1048576 ∧ 0 ≤ u ∧ u ≤ 2199023255552 ∧ (st = 1 ∨ u = 0)) && healthV s c
noncomputable def brkO (st f u : Int) (s : Nat) (c : Int) : Bool := opq (brkV st f u s c)
theorem brkO_eq (st f u : Int) (s : Nat) (c : Int) : brkO st f u s c = brkV st f u s c := opq_eq _
theorem brk_of {st f u : Int} {s : Nat} {c : Int} : brkO st f u s c = true ↔ (0 ≤ st ∧ st ≤ 2 ∧ 0 ≤ f ∧ f ≤ 1048576 ∧ 0 ≤ u ∧ u ≤ 2199023255552 ∧ (st = 1 ∨ u = 0)) ∧ healthO s c = true := by
  rw [brkO_eq, healthO_eq]; unfold brkV; rw [Bool.and_eq_true, decide_eq_true_eq]
theorem bk_no {st f u : Int} {s : Nat} {c : Int} (h : ¬ (0 ≤ st ∧ st ≤ 2 ∧ 0 ≤ f ∧ f ≤ 1048576 ∧ 0 ≤ u ∧ u ≤ 2199023255552 ∧ (st = 1 ∨ u = 0))) : false = brkO st f u s c := by
  rw [brkO_eq]; unfold brkV; rw [decide_eq_false h]; rfl
theorem bk_nh {st f u : Int} {s : Nat} {c : Int} (h : healthO s c = false) : false = brkO st f u s c := by
  rw [healthO_eq] at h; rw [brkO_eq]; unfold brkV; rw [h, Bool.and_false]
theorem bk_h {st f u : Int} {s : Nat} {c : Int} (h : 0 ≤ st ∧ st ≤ 2 ∧ 0 ≤ f ∧ f ≤ 1048576 ∧ 0 ≤ u ∧ u ≤ 2199023255552 ∧ (st = 1 ∨ u = 0)) : healthO s c = brkO st f u s c := by
  rw [healthO_eq, brkO_eq]; unfold brkV; rw [decide_eq_true h]; rfl
theorem bk_y {st f u : Int} {s : Nat} {c : Int} (h : 0 ≤ st ∧ st ≤ 2 ∧ 0 ≤ f ∧ f ≤ 1048576 ∧ 0 ≤ u ∧ u ≤ 2199023255552 ∧ (st = 1 ∨ u = 0)) (h2 : healthO s c = true) : true = brkO st f u s c := by rw [← bk_h h, h2]
theorem bk_d {st f u : Int} {s : Nat} {c : Int} {p : Prop} [Decidable p] (h : p ↔ 0 ≤ st ∧ st ≤ 2 ∧ 0 ≤ f ∧ f ≤ 1048576 ∧ 0 ≤ u ∧ u ≤ 2199023255552 ∧ (st = 1 ∨ u = 0)) (h2 : healthO s c = true) : decide p = brkO st f u s c := by
  rw [brkO_eq]; rw [healthO_eq] at h2; unfold brkV; rw [h2, Bool.and_true]; exact decide_eq_decide.2 h
theorem b_or {x : Nat} (h : (fo x x == some .eq) = true) (h2 : uI x < 9223372036854775808) : wr .u64 (↑(BitVec.ofInt 64 (uI x) ||| BitVec.ofInt 64 9223372036854775808).toNat) = bitsO x := by
  rw [uI_eq] at *
  rw [bits_or h2, bitsO_eq, bits_lo (nan_of h) (by omega)]
theorem b_xor {x : Nat} (hx : x < 18446744073709551616) (h : (fo x x == some .eq) = true) (h2 : ¬ uI x < 9223372036854775808) : wr .u64 (↑(BitVec.toNat (BitVec.ofInt 64 18446744073709551615 ^^^ BitVec.ofInt 64 (uI x)))) = bitsO x := by
  rw [uI_eq] at *
  rw [bits_xor hx, bitsO_eq, bits_hi (nan_of h) (by omega)]
theorem b_xor2 {x : Nat} (hx : x < 18446744073709551616) (h : (fo x x == some .eq) = true) (h2 : Int.fdiv (uI x) 9223372036854775808 = 1) : wr .u64 (↑(BitVec.toNat (BitVec.ofInt 64 18446744073709551615 ^^^ BitVec.ofInt 64 (uI x)))) = bitsO x := by
  refine b_xor hx h ?_
  rw [uI_eq] at *
  rw [Int.fdiv_eq_ediv_of_nonneg _ (by omega)] at h2
  omega
theorem b_add {x : Nat} (hx : x < 18446744073709551616) (h : (fo x x == some .eq) = true) (h2 : Int.fdiv (uI x) 9223372036854775808 ≠ 1) : wr .u64 (uI x + 9223372036854775808) = bitsO x := by
  rw [uI_eq] at *
  rw [Int.fdiv_eq_ediv_of_nonneg _ (by omega)] at h2
  rw [bitsO_eq, bits_lo (nan_of h) (by omega)]
  show ((x : Int) + 9223372036854775808) % 18446744073709551616 = _
  omega
end Go.Eng

set_option autoImplicit false
namespace Go.Eng.B
open Go Go.RowKit Go.Eng
/-! ## What an argument holds: its texts within the form's reach -/
inductive CellOk (w : World) : SK → Value → Prop
  | int (k : IntKind) (n : Int) (h : (Lit.int k n).wf = true) : CellOk w (.int k) (.int k n)
  | bool (b : Bool) : CellOk w .bool (.bool b)
  | str (s : ByteArray) (h : s.size ≤ reachBytes) : CellOk w .str (.string s)
  | flt (k : FloatKind) (b : Nat) (h : (Lit.float k b).wf = true) : CellOk w (.flt k) (.float k b)
  | slnil (m : Nat) (ks : Nat → SK) : CellOk w (.sl m ks) (.slice none 0 0)
  | sl (m : Nat) (ks : Nat → SK) (a : Addr) (len cap : Nat) (z : Nat → Nat → Value) (h1 : len ≤ cap) (h2 : cap ≤ maxLen) (hsp : 0 < len → a.block < w.heap.size ∧ a.spot = none)
      (hz : ∀ j, j < len → ∀ c, c < m → w.cell? ⟨a.block, a.off + (j * m + c), none⟩ = some (z j c)) (hc : ∀ j, j < len → ∀ c, c < m → CellOk w (ks c) (z j c)) : CellOk w (.sl m ks) (.slice (some a) len cap)

def CellsOk (w : World) (ks : List SK) (cs : List Value) : Prop := cs.length = ks.length ∧ ∀ (c : Nat) (k : SK) (v : Value), ks[c]? = some k → cs[c]? = some v → CellOk w k v
theorem CellsOk.one {w : World} {k : SK} {v : Value} (h : CellOk w k v) : CellsOk w [k] [v] := by
  refine ⟨rfl, fun c k' v' hk hv => ?_⟩
  cases c with
  | zero => simp at hk hv; subst hk; subst hv; exact h
  | succ c => simp at hk
theorem CellsOk.app {w : World} {k1 k2 : List SK} {c1 c2 : List Value} (h1 : CellsOk w k1 c1) (h2 : CellsOk w k2 c2) : CellsOk w (k1 ++ k2) (c1 ++ c2) := by
  refine ⟨by simp [h1.1, h2.1], fun c k v hk hv => ?_⟩
  by_cases hc : c < k1.length
  · rw [List.getElem?_append_left hc] at hk
    rw [List.getElem?_append_left (by rw [h1.1]; exact hc)] at hv
    exact h1.2 c k v hk hv
  · rw [List.getElem?_append_right (by omega)] at hk
    rw [List.getElem?_append_right (by rw [h1.1]; omega), h1.1] at hv
    exact h2.2 _ k v hk hv

theorem shapeFs_ok {P : Program} {w : World} {sh : TypeId → Option (List SK)} {cs : List Value} (fs : List Field) (hf : ∀ f ∈ fs, ∀ l, sh f.type = some l → CellsOk w l ((cs.drop f.offset).take (P.cellsOf f.type))) :
    ∀ {off : Nat} {ks : List SK}, shapeFs P sh fs off = some ks → CellsOk w ks ((cs.drop off).take ks.length) := by
  induction fs with
  | nil => intro off ks h; cases h; exact ⟨by simp, fun c k v hk => by simp at hk⟩
  | cons f fs ih =>
    intro off ks h
    simp only [shapeFs, Option.bind_eq_some_iff] at h
    obtain ⟨l, hl, h⟩ := h
    split at h
    · rename_i hc
      obtain ⟨ks', hks, rfl⟩ := Option.map_eq_some_iff.1 h
      have h1 := hf f (by simp) l hl
      rw [hc.1, ← hc.2] at h1
      have h2 := ih (fun f hf' => hf f (by simp [hf'])) hks
      have := h1.app h2
      rw [List.length_append]
      rw [show ((cs.drop off).take l.length) ++ ((cs.drop (off + l.length)).take ks'.length) = (cs.drop off).take (l.length + ks'.length) by
        rw [List.take_add, List.drop_drop]] at this
      exact this
    · cases h
theorem repL_ok {w : World} {l : List SK} {cs : List Value} (n : Nat) : ∀ (m : Nat), (∀ i, i < n → CellsOk w l ((cs.drop ((m + i) * l.length)).take l.length)) → CellsOk w (repL l n) ((cs.drop (m * l.length)).take (n * l.length)) := by
  induction n with
  | zero => intro m _; exact ⟨by simp [repL], fun c k v hk => by simp [repL] at hk⟩
  | succ n ih =>
    intro m h
    have h1 := h 0 (by omega)
    have h2 := ih (m + 1) (fun i hi => by have := h (i + 1) (by omega); rwa [show m + (i + 1) = m + 1 + i by omega] at this)
    have := h1.app h2
    rw [Nat.add_zero, Nat.add_mul m 1, Nat.one_mul] at this
    rw [Nat.add_mul n 1, Nat.one_mul, Nat.add_comm (n * l.length)]
    rw [← List.drop_drop, ← List.take_add] at this
    exact this
theorem wAll_mem {H : Type} {P : Program} {e : TypeId} : ∀ (l : List (DataW H)) (d : DataW H), d ∈ l → ∀ b ∈ d.weights P e, b ∈ DataW.weightsAll P e l
  | [], d, h, b, hb => by cases h
  | x :: l, d, h, b, hb => by
    unfold DataW.weightsAll
    rcases List.mem_cons.1 h with rfl | h
    · exact List.mem_append.2 (.inl hb)
    · exact List.mem_append.2 (.inr (wAll_mem l d h b hb))
theorem wEach_mem {H : Type} {P : Program} : ∀ (ts : List TypeId) (l : List (DataW H)) (i : Nat) (t : TypeId) (d : DataW H), ts[i]? = some t → l[i]? = some d → ∀ b ∈ d.weights P t, b ∈ DataW.weightsEach P ts l
  | [], _, i, t, d, ht, hd, b, hb => by simp at ht
  | _ :: _, [], i, t, d, ht, hd, b, hb => by simp at hd
  | t0 :: ts, x :: l, i, t, d, ht, hd, b, hb => by
    unfold DataW.weightsEach
    cases i with
    | zero =>
      simp at ht hd
      subst ht; subst hd
      exact List.mem_append.2 (.inl hb)
    | succ i => exact List.mem_append.2 (.inr (wEach_mem ts l i t d (by simpa using ht) (by simpa using hd) b hb))
theorem trod_cells {Hh : Type} {enc : TypeId × Value → Hh} {P : Program} {w : World} {sp : Nat → Bool} {held : Bool} (fuel : Nat) : ∀ {t : TypeId} {cs : List Value} {x : DataW Hh × List MemPlace}, DataW.trod enc P w 0 sp held fuel t cs = some x →
    (∀ b ∈ x.1.weights P t, b ≤ reachBytes) → ∀ {g : Nat} {ks : List SK}, shapeL P g t = some ks → CellsOk w ks cs := by
  induction fuel with
  | zero => intro t cs x h; simp [DataW.trod] at h
  | succ fuel ih =>
    intro t cs x h hw g ks hk
    cases g with
    | zero => simp [shapeL] at hk
    | succ g =>
      unfold shapeL at hk
      cases hd : P.underlying t with
      | none => rw [hd] at hk; cases hk
      | some d =>
        rw [hd] at hk
        cases d with
        | bool =>
          cases hk
          obtain ⟨b, rfl, _⟩ := DataW.trod_bool hd h
          exact .one (.bool _)
        | int k =>
          cases hk
          obtain ⟨b, rfl, _, hw⟩ := DataW.trod_int hd h
          exact .one (.int _ _ hw)
        | float k =>
          cases hk
          obtain ⟨b, rfl, hw⟩ := trod_float hd h
          exact .one (.flt _ _ hw)
        | string =>
          cases hk
          obtain ⟨s, rfl, hx, hs⟩ := DataW.trod_string hd h
          refine .one (.str _ ?_)
          subst hx
          have := hw _ (List.mem_singleton.2 rfl)
          exact Nat.le_trans (Nat.le_of_eq (Array.length_toList).symm) this
        | slice e =>
          obtain ⟨l, hl, hk⟩ := Option.bind_eq_some_iff.1 hk
          split at hk
          · rename_i hc
            cases hk
            rcases DataW.trod_slice hd h with ⟨rfl, _⟩ | ⟨a, len, cap, elems, rest, n, hn, rfl, hx, _, h1, h2, h3, h4, _⟩
            · exact .one (.slnil _ _)
            · obtain rfl : fuel = n := by omega
              have each : ∀ j, j < len → ∃ csj, w.cells? 0 (a.add (j * P.cellsOf e)) (P.cellsOf e) = some csj ∧ CellsOk w l csj := by
                intro j hj
                have := h4 j hj
                rw [List.getElem?_eq_getElem (by omega)] at this
                obtain ⟨csj, hcs, ht⟩ := Option.bind_eq_some_iff.1 this
                refine ⟨csj, hcs, ih ht (fun b hb => hw b ?_) hl⟩
                rw [hx]
                simp only [DataW.weights, hd]
                refine List.mem_cons.2 (.inr (List.mem_append.2 (.inl (wAll_mem _ _ (List.mem_map.2 ⟨_, List.getElem_mem (by omega), rfl⟩) b hb))))
              have hsp : 0 < len → a.block < w.heap.size ∧ a.spot = none := by
                intro hp
                obtain ⟨csj, hcs, _⟩ := each 0 hp
                obtain ⟨_, hg⟩ := cells?_get hcs
                obtain ⟨v, _, hv⟩ := hg 0 (by omega)
                simp only [Nat.zero_mul, Addr.add, if_true] at hv
                exact cell?_spot hv
              have hcell : ∀ j, j < len → ∀ c, c < l.length → ∃ v k, w.cell? ⟨a.block, a.off + (j * l.length + c), none⟩ = some v ∧ l[c]? = some k ∧ CellOk w k v := by
                intro j hj c hc'
                obtain ⟨csj, hcs, hok⟩ := each j hj
                obtain ⟨hlen, hg⟩ := cells?_get hcs
                obtain ⟨v, hv, hcl⟩ := hg c (by omega)
                refine ⟨v, l[c], ?_, List.getElem?_eq_getElem hc', hok.2 c _ v (List.getElem?_eq_getElem hc') hv⟩
                have hs := (hsp (by omega)).2
                rw [← hcl, ← hc.1]
                congr 1
                cases a with
                | mk b o s =>
                  simp only at hs
                  subst hs
                  simp only [Addr.add_lit]
                  congr 1
                  omega
              refine .one (.sl l.length _ a len cap (fun j c => (w.cell? ⟨a.block, a.off + (j * l.length + c), none⟩).getD undef) h1 h2 hsp ?_ ?_)
              · intro j hj c hc'
                obtain ⟨v, k, h5, _, _⟩ := hcell j hj c hc'
                rw [h5]; rfl
              · intro j hj c hc'
                obtain ⟨v, k, h5, h6, h7⟩ := hcell j hj c hc'
                rw [h5]
                simp only [List.getD_eq_getElem?_getD, h6, Option.getD_some]
                exact h7
          · cases hk
        | struct fs =>
          obtain ⟨l, hl, hk⟩ := Option.bind_eq_some_iff.1 hk
          split at hk
          · rename_i hc
            cases hk
            obtain ⟨xs, n, hn, hx, hlen, hxs, hf⟩ := DataW.trod_struct hd h
            obtain rfl : fuel = n := by omega
            have := shapeFs_ok (w := w) (cs := cs) fs.toList (fun f hfm l' hl' => by
              obtain ⟨i, hi⟩ := List.getElem?_of_mem hfm
              have hi' : fs[i]? = some f := by simpa using hi
              have h5 := hf i f hi'
              have hlt := (Array.getElem?_eq_some_iff.1 hi').1
              rw [List.getElem?_eq_getElem (by omega)] at h5
              refine ih h5 (fun b hb => hw b ?_) hl'
              rw [hx]
              simp only [DataW.weights, hd]
              refine wEach_mem _ _ i f.type _ ?_ ?_ b hb
              · simp [hi]
              · simp [List.getElem?_eq_getElem (show i < xs.length by omega)]) hl
            rw [hc, ← hlen, List.drop_zero, List.take_length] at this
            exact this
          · cases hk
        | array n e =>
          obtain ⟨l, hl, hk⟩ := Option.bind_eq_some_iff.1 hk
          split at hk
          · rename_i hc
            cases hk
            obtain ⟨xs, m, hn, hx, hlen, hxs, hf⟩ := DataW.trod_array hd h
            obtain rfl : fuel = m := by omega
            have := repL_ok (w := w) (l := l) (cs := cs) n 0 (fun i hi => by
              have h5 := hf i hi
              rw [List.getElem?_eq_getElem (by omega)] at h5
              have := ih h5 (fun b hb => hw b (by
                rw [hx]
                simp only [DataW.weights, hd]
                exact wAll_mem _ _ (List.mem_map.2 ⟨_, List.getElem_mem (by omega), rfl⟩) b hb)) hl
              rw [Nat.zero_add, hc.1]
              exact this)
            rw [hc.2, ← hlen, Nat.zero_mul, List.drop_zero, List.take_length] at this
            exact this
          · cases hk
        | _ => cases hk
variable {gl : Nat → Nat → Option Value}
inductive ColFact : SK → Col → Prop
  | int (k : IntKind) (l : List Int) (h : ∀ x ∈ l, (Lit.int k x).wf = true) : ColFact (.int k) (.ci k l)
  | bool (l : List Bool) : ColFact .bool (.cb l)
  | str (l : List ByteArray) (h : ∀ x ∈ l, x.size ≤ reachBytes) : ColFact .str (.cs l)
  | flt (k : FloatKind) (l : List Nat) (h : ∀ x ∈ l, (Lit.float k x).wf = true) : ColFact (.flt k) (.cf k l)
  | sl (m : Nat) (ks : Nat → SK) (h : List (Bool × Nat × Nat)) (sub : Nat → List Col) (hm : ∀ j, (sub j).length = m)
      (hb : ∀ j, (h.getD j hd0).2.1 ≤ (h.getD j hd0).2.2 ∧ (h.getD j hd0).2.2 ≤ maxLen ∧ ((h.getD j hd0).1 = true → (h.getD j hd0).2.1 = 0))
      (hc : ∀ j, ∀ (c : Nat) (col : Col), (sub j)[c]? = some col → col.len = (h.getD j hd0).2.1)
      (hf : ∀ j, ∀ (c : Nat) (col : Col), (sub j)[c]? = some col → ColFact (ks c) col) : ColFact (.sl m ks) (.cl h sub)

def intOf : Value → Int
  | .int _ m => m
  | _ => 0
def boolOf : Value → Bool
  | .bool m => m
  | _ => false
def stringOf : Value → ByteArray
  | .string m => m
  | _ => .empty
def floatOf : Value → Nat
  | .float _ m => m
  | _ => 0
theorem range_getD {α : Type} (f : Nat → α) (d : α) {n j : Nat} (hj : j < n) : ((List.range n).map f).getD j d = f j := by
  simp [List.getD_eq_getElem?_getD, List.getElem?_range hj]
def RowAt (gl : Nat → Nat → Option Value) (w : World) (m : Nat) (ks : Nat → SK) (v : Value) (e : Bool × Nat × Nat) (cols : List Col) : Prop :=
  cols.length = m ∧ (e.2.1 ≤ e.2.2 ∧ e.2.2 ≤ maxLen ∧ (e.1 = true → e.2.1 = 0)) ∧ (∀ (c : Nat) (col : Col), cols[c]? = some col → col.len = e.2.1 ∧ ColFact (ks c) col) ∧
        ∃ A : Option Addr, v = .slice A e.2.1 e.2.2 ∧ e.1 = A.isNone ∧ (A = none → e.2.1 = 0) ∧ (∀ a, A = some a → 0 < e.2.1 → a.block < w.heap.size ∧ a.spot = none) ∧
          ∃ zf : Nat → Nat → Value, (∀ a, A = some a → ∀ j, j < e.2.1 → ∀ (c : Nat) (col : Col), cols[c]? = some col → w.cell? ⟨a.block, a.off + (j * cols.length + c), none⟩ = some (zf j c)) ∧
            ∀ j, j < e.2.1 → ∀ (c : Nat) (col : Col), cols[c]? = some col → ColRel ⟨w.heap.size, gl⟩ w col j (zf j c)
theorem col_ex {w : World} (k : SK) : ∀ (n : Nat) (z : Nat → Value), (∀ j, j < n → CellOk w k (z j)) → ∃ col, ColFact k col ∧ col.len = n ∧ ∀ j, j < n → ColRel ⟨w.heap.size, gl⟩ w col j (z j) := by
  induction k with
  | int k =>
    intro n z h
    have : ∃ f : Nat → Int, ∀ j, j < n → z j = .int k (f j) ∧ (Lit.int k (f j)).wf = true := by
      refine ⟨fun j => intOf (z j), fun j hj => ?_⟩
      have := h j hj
      simp only
      generalize z j = v at this ⊢
      cases this with | int _ m hm => exact ⟨rfl, hm⟩
    obtain ⟨f, hf⟩ := this
    refine ⟨.ci k ((List.range n).map f), .int k _ (fun x hx => ?_), by simp [Col.len], fun j hj => ?_⟩
    · obtain ⟨i, hi, rfl⟩ := List.mem_map.1 hx
      exact (hf i (List.mem_range.1 hi)).2
    · rw [(hf j hj).1]
      have := ColRel.ci (N := ⟨w.heap.size, gl⟩) (w := w) k ((List.range n).map f) j
      rwa [range_getD f 0 hj] at this
  | bool =>
    intro n z h
    have : ∃ f : Nat → Bool, ∀ j, j < n → z j = .bool (f j) := by
      refine ⟨fun j => boolOf (z j), fun j hj => ?_⟩
      have := h j hj
      simp only
      generalize z j = v at this ⊢
      cases this with | bool m => rfl
    obtain ⟨f, hf⟩ := this
    refine ⟨.cb ((List.range n).map f), .bool _, by simp [Col.len], fun j hj => ?_⟩
    rw [hf j hj]
    have := ColRel.cb (N := ⟨w.heap.size, gl⟩) (w := w) ((List.range n).map f) j
    rwa [range_getD f _ hj] at this
  | str =>
    intro n z h
    have : ∃ f : Nat → ByteArray, ∀ j, j < n → z j = .string (f j) ∧ (f j).size ≤ reachBytes := by
      refine ⟨fun j => stringOf (z j), fun j hj => ?_⟩
      have := h j hj
      simp only
      generalize z j = v at this ⊢
      cases this with | str m hm => exact ⟨rfl, hm⟩
    obtain ⟨f, hf⟩ := this
    refine ⟨.cs ((List.range n).map f), .str _ (fun x hx => ?_), by simp [Col.len], fun j hj => ?_⟩
    · obtain ⟨i, hi, rfl⟩ := List.mem_map.1 hx
      exact (hf i (List.mem_range.1 hi)).2
    · rw [(hf j hj).1]
      have := ColRel.cs (N := ⟨w.heap.size, gl⟩) (w := w) ((List.range n).map f) j
      rwa [range_getD f _ hj] at this
  | flt k =>
    intro n z h
    have : ∃ f : Nat → Nat, ∀ j, j < n → z j = .float k (f j) ∧ (Lit.float k (f j)).wf = true := by
      refine ⟨fun j => floatOf (z j), fun j hj => ?_⟩
      have := h j hj
      simp only
      generalize z j = v at this ⊢
      cases this with | flt _ m hm => exact ⟨rfl, hm⟩
    obtain ⟨f, hf⟩ := this
    refine ⟨.cf k ((List.range n).map f), .flt k _ (fun x hx => ?_), by simp [Col.len], fun j hj => ?_⟩
    · obtain ⟨i, hi, rfl⟩ := List.mem_map.1 hx
      exact (hf i (List.mem_range.1 hi)).2
    · rw [(hf j hj).1]
      have := ColRel.cf (N := ⟨w.heap.size, gl⟩) (w := w) k ((List.range n).map f) j
      rwa [range_getD f 0 hj] at this
  | sl m ks ih =>
    intro n z h
    -- one row
    have one : ∀ v, CellOk w (.sl m ks) v → ∃ (e : Bool × Nat × Nat) (cols : List Col), RowAt gl w m ks v e cols := by
      intro v hv
      cases hv with
      | slnil =>
        have : ∃ f : Nat → Col, ∀ c, ColFact (ks c) (f c) ∧ (f c).len = 0 := by
          refine ⟨fun c => Classical.choose (ih c 0 (fun _ => undef) (fun j hj => absurd hj (Nat.not_lt_zero _))), fun c => ?_⟩
          have := Classical.choose_spec (ih c 0 (fun _ => undef) (fun j hj => absurd hj (Nat.not_lt_zero _)))
          exact ⟨this.1, this.2.1⟩
        obtain ⟨f, hf⟩ := this
        refine ⟨(true, 0, 0), (List.range m).map f, by simp, ⟨Nat.le_refl _, Nat.zero_le _, fun _ => rfl⟩, fun c col hc => ?_, none, rfl, rfl, fun _ => rfl, fun a ha => (by cases ha), fun _ _ => undef, fun a ha => (by cases ha), fun j hj => absurd hj (Nat.not_lt_zero _)⟩
        have hcm : c < m := by simpa using (List.getElem?_eq_some_iff.1 hc).1
        simp only [List.getElem?_map, List.getElem?_range hcm, Option.map_some, Option.some.injEq] at hc
        subst hc
        exact ⟨(hf c).2, (hf c).1⟩
      | sl _ _ a len cap zf h1 h2 hsp hz hc =>
        have : ∃ f : Nat → Col, ∀ c, c < m → ColFact (ks c) (f c) ∧ (f c).len = len ∧ ∀ j, j < len → ColRel ⟨w.heap.size, gl⟩ w (f c) j (zf j c) := by
          refine ⟨fun c => if hcm : c < m then Classical.choose (ih c len (fun j => zf j c) (fun j hj => hc j hj c hcm)) else .cb [], fun c hcm => ?_⟩
          simp only [dif_pos hcm]
          exact Classical.choose_spec (ih c len (fun j => zf j c) (fun j hj => hc j hj c hcm))
        obtain ⟨f, hf⟩ := this
        have hget : ∀ (c : Nat) (col : Col), ((List.range m).map f)[c]? = some col → c < m ∧ col = f c := by
          intro c col hcol
          have hcm : c < m := by simpa using (List.getElem?_eq_some_iff.1 hcol).1
          simp only [List.getElem?_map, List.getElem?_range hcm, Option.map_some, Option.some.injEq] at hcol
          exact ⟨hcm, hcol.symm⟩
        refine ⟨(false, len, cap), (List.range m).map f, by simp, ⟨h1, h2, fun e => (by cases e)⟩, fun c col hcol => ?_, some a, rfl, rfl, fun e => (by cases e), fun b hb hp => (by cases hb; exact hsp hp), zf, fun b hb j hj c col hcol => ?_, fun j hj c col hcol => ?_⟩
        · obtain ⟨hcm, rfl⟩ := hget c col hcol
          exact ⟨(hf c hcm).2.1, (hf c hcm).1⟩
        · cases hb
          obtain ⟨hcm, rfl⟩ := hget c col hcol
          simpa using hz j hj c hcm
        · obtain ⟨hcm, rfl⟩ := hget c col hcol
          exact (hf c hcm).2.2 j hj
    have : ∃ (e : Nat → Bool × Nat × Nat) (sub : Nat → List Col), ∀ j, RowAt gl w m ks (if j < n then z j else .slice none 0 0) (e j) (sub j) := by
      have h' : ∀ j, CellOk w (.sl m ks) (if j < n then z j else .slice none 0 0) := fun j => by
        split
        · rename_i hj; exact h j hj
        · exact .slnil m ks
      refine ⟨fun j => Classical.choose (one _ (h' j)), fun j => Classical.choose (Classical.choose_spec (one _ (h' j))), fun j => ?_⟩
      exact Classical.choose_spec (Classical.choose_spec (one _ (h' j)))
    obtain ⟨e, sub, hes⟩ := this
    have hlen : ((List.range n).map e).length = n := by simp
    have hget : ∀ j, ((List.range n).map e).getD j hd0 = if j < n then e j else hd0 := fun j => by
      split
      · rename_i hj; exact range_getD e hd0 hj
      · rename_i hj; rw [List.getD_eq_getElem?_getD, List.getElem?_eq_none (by simpa using hj)]; rfl
    have hzero : ∀ j, ¬ j < n → (e j).2.1 = 0 := fun j hj => by
      obtain ⟨_, _, _, A, h4, _⟩ := hes j
      rw [if_neg hj] at h4
      injection h4 with _ h4 _
      exact h4.symm
    refine ⟨.cl ((List.range n).map e) sub, .sl m ks _ sub (fun j => (hes j).1) (fun j => ?_) (fun j c col hc => ?_) (fun j c col hc => ((hes j).2.2.1 c col hc).2), by simp [Col.len], fun j hj => ?_⟩
    · rw [hget]
      split
      · exact (hes j).2.1
      · exact ⟨Nat.le_refl _, Nat.zero_le _, fun _ => rfl⟩
    · rw [hget]
      split
      · exact ((hes j).2.2.1 c col hc).1
      · rename_i hj
        rw [((hes j).2.2.1 c col hc).1, hzero j hj]
    · obtain ⟨h1, h2, h3, A, h4, h5, h6, h7, zf, h8, h9⟩ := hes j
      rw [if_pos hj] at h4
      rw [h4]
      have e1 := range_getD e hd0 hj
      have := ColRel.cl (N := ⟨w.heap.size, gl⟩) (w := w) ((List.range n).map e) sub j A zf (by rw [e1]; exact fun c col hc => (h3 c col hc).1) (by rw [e1]; exact h2.1) (by rw [e1]; exact h5) (by rw [e1]; exact h6) (by rw [e1]; exact h7) (by rw [e1]; exact h8) (by rw [e1]; exact h9)
      rw [e1] at this
      exact this

/-- Columns that fit kinds, one row each. -/
def FitCols (ks : List SK) (cols : List Col) : Prop := cols.length = ks.length ∧ ∀ (c : Nat) (k : SK) (col : Col), ks[c]? = some k → cols[c]? = some col → ColFact k col ∧ col.len = 1
theorem fit_ex {gl : Nat → Nat → Option Value} {w : World} (ks : List SK) : ∀ (cs : List Value), CellsOk w ks cs → ∃ cols, FitCols ks cols ∧ ∀ (i : Nat) (col : Col) (v : Value), cols[i]? = some col → cs[i]? = some v → ColRel ⟨w.heap.size, gl⟩ w col 0 v := by
  induction ks with
  | nil =>
    intro cs h
    exact ⟨[], ⟨rfl, fun c k col hk => by simp at hk⟩, fun i col v hc => by simp at hc⟩
  | cons k ks ih =>
    intro cs h
    obtain ⟨h1, h2⟩ := h
    cases cs with
    | nil => simp at h1
    | cons v cs =>
      obtain ⟨cols, ⟨hl, hf⟩, hr⟩ := ih cs ⟨by simpa using h1, fun c k' v' hk hv => h2 (c + 1) k' v' (by simpa using hk) (by simpa using hv)⟩
      obtain ⟨col, hcf, hcl, hcr⟩ := col_ex (gl := gl) (w := w) k 1 (fun _ => v) (fun j hj => h2 0 k v rfl rfl)
      refine ⟨col :: cols, ⟨by simp [hl], fun c k' col' hk hc => ?_⟩, fun i col' v' hc hv => ?_⟩
      · cases c with
        | zero => simp at hk hc; subst hk; subst hc; exact ⟨hcf, hcl⟩
        | succ c => exact hf c k' col' (by simpa using hk) (by simpa using hc)
      · cases i with
        | zero => simp at hc hv; subst hc; subst hv; exact hcr 0 (by omega)
        | succ i => exact hr i col' v' (by simpa using hc) (by simpa using hv)

theorem law_callsG {gl : Nat → Nat → Option Value} {Hh : Type} {enc : TypeId × Value → Hh} {P : Program} {tt : TT} (tok : TTok P tt) {S : Nat → Option (List AV → Mem → T (AV × Mem))} {F : Nat → Option FI} (hF : FOk P F) (hmix : P.follows .mixedOrders = true) {L d : Nat} {f : FuncId} {t : TypeId}
    {ks : List SK} {g : Nat} (hsh : shapeL P g t = some ks) {W : World} (hgl : Glob ⟨W.heap.size, gl⟩ W) (hS : SOk P ⟨W.heap.size, gl⟩ S) {sp : Nat → Bool} {held : Bool} {v : Value} {dd : DataW Hh} {p : List MemPlace} (ht : DataW.Trod enc P W 0 sp held t v dd p) (hsz : (DataW.weightsEach P [t] [dd]).all (· ≤ reachBytes) = true)
    {arg : List AV → AV} (harg : ∀ φ l, AVsRel φ l v.cells.toList → AVRel φ (arg l) v)
    (law : ∀ cols, FitCols ks cols → H (evFun P tt S F L d f [arg (argVals cols)] (argMem cols)) (fun x => x.1 = .b true) (fun _ _ => False)) (hSf : S f = none := by kernel_rfl) :
    Calls P f #[v] W fun e W' => e = .returned (.bool true) ∧ Below W.heap.size W W' := by
  obtain ⟨fuel, htr⟩ := ht
  have hcells := trod_cells fuel htr (fun b hb => by
    have := List.all_eq_true.1 hsz b (by unfold DataW.weightsEach; exact List.mem_append.2 (.inl hb))
    simpa using this) hsh
  obtain ⟨cols, hfit, hrel⟩ := fit_ex (gl := gl) ks v.cells.toList hcells
  obtain ⟨φ, _, hr, hx⟩ := putCols_ok cols (rep0 hgl) (by rw [hfit.1, hcells.1]) hrel
  obtain ⟨_, hc⟩ := evFun_okA tok hS hF hmix d hSf [arg (argVals cols)] (argMem cols) _ _ (law cols hfit).out
  have := hc φ W [v] (hr.lock _) (.cons (harg φ _ hx) .nil)
  refine this.mono fun e W' h => ?_
  rcases h with ⟨u, rfl, φ', x, M', hq, hxv, hr', he⟩ | ⟨u, rfl, φ', x, M', hq, _⟩
  · have hq : x = .b true := hq
    subst hq
    cases hxv
    exact ⟨rfl, he.below (hr.lock _)⟩
  · exact hq.elim
abbrev noGl : Nat → Nat → Option Value := fun _ _ => none
theorem glob_no (w : World) : Glob ⟨w.heap.size, noGl⟩ w := fun _ _ _ h => by cases h
theorem law_calls {Hh : Type} {enc : TypeId × Value → Hh} {P : Program} {tt : TT} (tok : TTok P tt) {S : Nat → Option (List AV → Mem → T (AV × Mem))} {F : Nat → Option FI} (hF : FOk P F) (hmix : P.follows .mixedOrders = true) {L d : Nat} {f : FuncId} {t : TypeId}
    {ks : List SK} {g : Nat} (hsh : shapeL P g t = some ks) {W : World} (hS : SOk P ⟨W.heap.size, noGl⟩ S) {sp : Nat → Bool} {held : Bool} {v : Value} {dd : DataW Hh} {p : List MemPlace} (ht : DataW.Trod enc P W 0 sp held t v dd p) (hsz : (DataW.weightsEach P [t] [dd]).all (· ≤ reachBytes) = true)
    {arg : List AV → AV} (harg : ∀ φ l, AVsRel φ l v.cells.toList → AVRel φ (arg l) v)
    (law : ∀ cols, FitCols ks cols → H (evFun P tt S F L d f [arg (argVals cols)] (argMem cols)) (fun x => x.1 = .b true) (fun _ _ => False)) (hSf : S f = none := by kernel_rfl) :
    Calls P f #[v] W fun e W' => e = .returned (.bool true) ∧ Below W.heap.size W W' :=
  law_callsG tok hF hmix hsh (glob_no W) hS ht hsz harg law hSf
/-! ## What a column of a shape is -/
def FitN (n : Nat) (ks : List SK) (cols : List Col) : Prop := cols.length = ks.length ∧ ∀ (c : Nat) (k : SK) (col : Col), ks[c]? = some k → cols[c]? = some col → ColFact k col ∧ col.len = n
theorem FitN.cons {n : Nat} {k : SK} {ks : List SK} {cols : List Col} (h : FitN n (k :: ks) cols) : ∃ c cs, cols = c :: cs ∧ ColFact k c ∧ c.len = n ∧ FitN n ks cs := by
  obtain ⟨h1, h2⟩ := h
  cases cols with
  | nil => simp at h1
  | cons c cs =>
    obtain ⟨a, b⟩ := h2 0 k c rfl rfl
    exact ⟨c, cs, rfl, a, b, by simpa using h1, fun i k' c' hk hc => h2 (i + 1) k' c' (by simpa using hk) (by simpa using hc)⟩
theorem FitN.nil {n : Nat} {cols : List Col} (h : FitN n [] cols) : cols = [] := List.length_eq_zero_iff.1 h.1
theorem fit_int {k : IntKind} {c : Col} (h : ColFact (.int k) c) : ∃ l, c = .ci k l ∧ ∀ x ∈ l, (Lit.int k x).wf = true := by
  cases h with
  | int k l h => exact ⟨l, rfl, h⟩
theorem fit_int1 {k : IntKind} {c : Col} (h : ColFact (.int k) c) (h1 : c.len = 1) : ∃ x, c = .ci k [x] ∧ (Lit.int k x).wf = true := by
  obtain ⟨l, rfl, h'⟩ := fit_int h
  match l, h1, h' with
  | [x], _, h' => exact ⟨x, rfl, h' x (by simp)⟩
theorem fit_bool {c : Col} (h : ColFact .bool c) : ∃ l, c = .cb l := by
  cases h with
  | bool l => exact ⟨l, rfl⟩
theorem fit_bool1 {c : Col} (h : ColFact .bool c) (h1 : c.len = 1) : ∃ x, c = .cb [x] := by
  obtain ⟨l, rfl⟩ := fit_bool h
  match l, h1 with
  | [x], _ => exact ⟨x, rfl⟩
theorem fit_str {c : Col} (h : ColFact .str c) : ∃ l, c = .cs l ∧ ∀ x ∈ l, x.size ≤ reachBytes := by
  cases h with
  | str l h => exact ⟨l, rfl, h⟩
theorem fit_str1 {c : Col} (h : ColFact .str c) (h1 : c.len = 1) : ∃ x, c = .cs [x] ∧ x.size ≤ reachBytes := by
  obtain ⟨l, rfl, h'⟩ := fit_str h
  match l, h1, h' with
  | [x], _, h' => exact ⟨x, rfl, h' x (by simp)⟩
theorem fit_flt {k : FloatKind} {c : Col} (h : ColFact (.flt k) c) : ∃ l, c = .cf k l ∧ ∀ x ∈ l, (Lit.float k x).wf = true := by
  cases h with
  | flt k l h => exact ⟨l, rfl, h⟩
theorem fit_sl {m : Nat} {ks : List SK} {d : SK} {c : Col} (h : ColFact (.sl m fun i => ks.getD i d) c) (hm : m = ks.length) : ∃ hd sub, c = .cl hd sub ∧
    ∀ j, (hd.getD j hd0).2.1 ≤ (hd.getD j hd0).2.2 ∧ (hd.getD j hd0).2.2 ≤ maxLen ∧ ((hd.getD j hd0).1 = true → (hd.getD j hd0).2.1 = 0) ∧ FitN (hd.getD j hd0).2.1 ks (sub j) := by
  cases h with
  | sl m _ h sub h1 hb hc hf =>
    refine ⟨h, sub, rfl, fun j => ⟨(hb j).1, (hb j).2.1, (hb j).2.2, by rw [h1 j, hm], fun c k col hk hcol => ⟨?_, hc j c col hcol⟩⟩⟩
    have := hf j c col hcol
    dsimp only at this
    rwa [List.getD_eq_getElem?_getD, hk] at this
theorem fit_sl1 {m : Nat} {ks : List SK} {d : SK} {c : Col} (h : ColFact (.sl m fun i => ks.getD i d) c) (hm : m = ks.length) (h1 : c.len = 1) : ∃ nl n cap sub, c = .cl [(nl, n, cap)] sub ∧ n ≤ cap ∧ cap ≤ maxLen ∧ (nl = true → n = 0) ∧ FitN n ks (sub 0) := by
  obtain ⟨hd, sub, rfl, hh⟩ := fit_sl h hm
  match hd, h1, hh with
  | [(nl, n, cap)], _, hh =>
    obtain ⟨a, b, c, d⟩ := hh 0
    exact ⟨nl, n, cap, sub, rfl, a, b, c, d⟩
theorem skolem {α : Type} {P : Nat → α → Prop} {F : α → List Col} {sub : Nat → List Col} (h : ∀ j, ∃ y, sub j = F y ∧ P j y) : ∃ Y : Nat → α, sub = (fun j => F (Y j)) ∧ ∀ j, P j (Y j) :=
  ⟨fun j => Classical.choose (h j), funext fun j => (Classical.choose_spec (h j)).1, fun j => (Classical.choose_spec (h j)).2⟩

end Go.Eng.B

set_option autoImplicit false
namespace Go.Eng
open Go Go.RowKit
/-! ## Contracts of functions that read objects, lay new ones, and may panic with a plain value -/
noncomputable def T.panAt {α : Type} (M : Mem) (x : T α) : T α := @T.rec α (fun _ => T α) .ret (fun b _ _ t e => .br b t e) (fun v _ => .pan v M) (fun b _ t => .ck b t) .fail x
theorem T.panAt_ok {α : Type} {M : Mem} {x : T α} {Q : α → Prop} {Qp : AV → Mem → Prop} (h : (T.panAt M x).holds Q Qp) : x.holds Q (fun v _ => Qp v M) := by
  induction x with
  | ret a => exact h
  | br b t e iht ihe => exact ⟨fun hb => iht (h.1 hb), fun hb => ihe (h.2 hb)⟩
  | pan x M => exact h
  | ck b t ih => exact ⟨h.1, ih h.2⟩
  | fail => exact h.elim
noncomputable def viewPK (g : List AV → List AObj → T (AV × List AObj)) (ids : List Nat) (args : List AV) (M : Mem) : T (AV × Mem) :=
  .ck (ids.all (fun i => Nat.blt i M.next) && (mapL M.get ids).all flatO) ((T.panAt M (g (mapL (ren1 fun id => idxOf ids id 0) args) (mapL M.get ids))).bind fun r =>
    .ck (r.2.all flatO) (.ret (ren1 (fun j => some (backI ids M.next j)) r.1, addO M r.2)))
noncomputable def viewP (g : List AV → List AObj → T (AV × List AObj)) : List AV → Mem → T (AV × Mem) := fun args M => viewPK g (dedupL (catL ids1 args)) args M
theorem sOk_viewP {P : Program} {tt : TT} (tok : TTok P tt) {F : Nat → Option FI} (hF : FOk P F) (hmix : P.follows .mixedOrders = true) {N : NB} {S R : Nat → Option (List AV → Mem → T (AV × Mem))} (h0 : SOk P N S) (hR : SOk P N R) {L d n : Nat}
    {g : List AV → List AObj → T (AV × List AObj)} (h : ∀ args objs Q (Qp : AV → Prop), (g args objs).holds Q (fun x _ => Qp x) → H (evFun P tt S F L d n args (memL objs.length objs)) (fun x => Q (resV objs.length x)) (fun x _ => plain0 x = true ∧ Qp x)) (hSn : S n = none := by kernel_rfl) :
    SOk P N (fun f => bif2 (Nat.beq f n) (some (viewP g)) (R f)) := by
  intro f s hs args M Q Qp hq
  simp only [bif2_eq] at hs
  split at hs
  case isFalse => exact hR f s hs args M Q Qp hq
  rename_i hf
  obtain rfl : f = n := Nat.eq_of_beq_eq_true hf
  cases hs
  have hq : (viewPK g (dedupL (catL ids1 args)) args M).holds Q Qp := hq
  have hnd := dedupL_nodup (catL ids1 args)
  revert hq hnd
  generalize dedupL (catL ids1 args) = ids
  intro hq hnd
  unfold viewPK at hq
  obtain ⟨hck, hq⟩ := ck_ok hq
  obtain ⟨hlt, hfl⟩ := Bool.and_eq_true_iff.1 hck
  have hlt : ∀ i ∈ ids, i < M.next := fun i hi => by have := List.all_eq_true.1 hlt i hi; simpa [Nat.blt_eq] using this
  rw [mapL_eq M.get] at hq hfl
  have hfl : ∀ i ∈ ids, flatO (M.get i) = true := fun i hi => List.all_eq_true.1 hfl _ (List.mem_map.2 ⟨i, hi, rfl⟩)
  rw [T.holds_bind] at hq
  have hq := T.panAt_ok hq
  have hrun := h _ _ _ (fun x => Qp x M) hq
  rw [List.length_map] at hrun
  obtain ⟨k1, k2⟩ := evFun_okA tok h0 hF hmix d hSn _ _ _ _ hrun.out
  refine .inl ⟨k1, fun φ w zs hr hz => ?_⟩
  -- the memory of the arguments alone
  let φ1 : Phi := fun j => (ids[j]?).bind φ
  have hφ1 : ∀ j i, ids[j]? = some i → φ1 j = φ i := fun j i e => by show (ids[j]?).bind φ = _; rw [e]; rfl
  have hget : ∀ j, nthO (ids.map M.get) j = ((ids[j]?).map M.get).getD .dead := fun j => by
    unfold nthO
    rw [nth?_eq, List.getElem?_map]
    cases ids[j]? <;> rfl
  have hr1 : Rep N φ1 (memL ids.length (ids.map M.get)) w := by
    refine ⟨fun j => ?_, fun j j' p p' ho ho' hp hp' e => ?_, fun j p ho hp => ?_, fun j hj => ?_, hr.size⟩
    · show ObjRel N φ1 w j (nthO (ids.map M.get) j)
      rw [hget]
      cases e : ids[j]? with
      | none => exact hr.glob
      | some i => exact (hr.objs i).move (hfl i (List.mem_of_getElem? e)) (hφ1 j i e)
    · have ho : isOwn (nthO (ids.map M.get) j) := ho
      have ho' : isOwn (nthO (ids.map M.get) j') := ho'
      rw [hget] at ho ho'
      cases ei : ids[j]? with
      | none => rw [ei] at ho; exact ho.elim
      | some i =>
        cases ei' : ids[j']? with
        | none => rw [ei'] at ho'; exact ho'.elim
        | some i' =>
          rw [ei] at ho; rw [ei'] at ho'
          rw [hφ1 j i ei] at hp; rw [hφ1 j' i' ei'] at hp'
          have := hr.sep i i' p p' ho ho' hp hp' e
          subst this
          exact nodup_get hnd ei ei'
    · have ho : isOwn (nthO (ids.map M.get) j) := ho
      rw [hget] at ho
      cases ei : ids[j]? with
      | none => rw [ei] at ho; exact ho.elim
      | some i => rw [ei] at ho; rw [hφ1 j i ei] at hp; exact hr.high i p ho hp
    · have hj : ids.length ≤ j := by simpa [memL] using hj
      have e : ids[j]? = none := List.getElem?_eq_none hj
      refine ⟨?_, by show (ids[j]?).bind φ = none; rw [e]; rfl⟩
      show nthO (ids.map M.get) j = .dead
      rw [hget, e]; rfl
  have hren : RenOk φ φ1 fun id => idxOf ids id 0 := fun id j e => by
    obtain ⟨_, e⟩ := idxOf_spec ids id 0 j e
    exact hφ1 j id (by simpa using e)
  refine (k2 φ1 w zs hr1 (ren1s_rel hren hz)).mono fun e w' he => ?_
  rcases he with ⟨u, rfl, φ', x, M', hx, hxu, hr', he⟩ | ⟨u, rfl, φ', x, M', hx, hxu, hr', he⟩
  case inr =>
    have hkeep : ∀ b, b < w.heap.size → w'.heap[b]? = w.heap[b]? := fun b hb => he.keep b hb fun id p hl ho _ => by
      have : (memL ids.length (ids.map M.get)).get id = .dead := (hr1.fresh id (by simpa [memL] using hl)).1
      rw [this] at ho; exact ho.elim
    exact .inr ⟨u, rfl, φ, x, M, hx.2, plain0_rel hx.1 hxu, hr.same hkeep he.size, ⟨.refl _, fun _ _ => rfl, Nat.le_refl _, rfl, he.os, he.tape, he.output, he.size, fun b hb _ => hkeep b hb, fun id p h h' _ => ⟨id, p, h, h', rfl, fun h => h⟩⟩⟩
  obtain ⟨hfn, hx⟩ := ck_ok hx
  have hnext : ids.length ≤ M'.next := by have := he.next; simpa [memL] using this
  -- what is as it was
  have hkeep : ∀ b, b < w.heap.size → w'.heap[b]? = w.heap[b]? := fun b hb => he.keep b hb fun id p hl ho _ => by
    have : (memL ids.length (ids.map M.get)).get id = .dead := (hr1.fresh id (by simpa [memL] using hl)).1
    rw [this] at ho; exact ho.elim
  let news := (mapL M'.get (iota M'.next)).drop ids.length
  have hnews : ∀ i, news[i]? = if ids.length + i < M'.next then some (M'.get (ids.length + i)) else none := by
    intro i
    show ((mapL M'.get (iota M'.next)).drop ids.length)[i]? = _
    rw [mapL_eq, iota_eq, List.getElem?_drop, List.getElem?_map]
    split
    · rename_i hlt; rw [List.getElem?_range hlt]; rfl
    · rename_i hlt; rw [List.getElem?_eq_none (by simpa using hlt)]; rfl
  have hnlen : news.length = M'.next - ids.length := by
    show ((mapL M'.get (iota M'.next)).drop ids.length).length = _
    rw [mapL_eq, iota_eq]; simp
  let φ2 : Phi := fun id => if id < M.next then φ id else φ' (ids.length + (id - M.next))
  have hφ2 : ∀ id, id < M.next → φ2 id = φ id := fun id hid => if_pos hid
  have hφ2' : ∀ id, ¬ id < M.next → φ2 id = φ' (ids.length + (id - M.next)) := fun id hid => if_neg hid
  have hle : PhiLe φ φ2 := fun id y e => by
    rcases Nat.lt_or_ge id M.next with h1 | h1
    · rw [hφ2 id h1]; exact e
    · rw [(hr.fresh id h1).2] at e; cases e
  have hback : RenOk φ' φ2 fun j => some (backI ids M.next j) := fun id j e => by
    cases e
    unfold backI
    rw [nth?_eq]
    cases ei : ids[id]? with
    | some i =>
      have hlti := hlt i (List.mem_of_getElem? ei)
      show φ2 i = φ' id
      rw [hφ2 i hlti, he.phi0 id (by have := (List.getElem?_eq_some_iff.1 ei).1; simpa [memL] using this), hφ1 id i ei]
    | none =>
      have : ids.length ≤ id := List.getElem?_eq_none_iff.1 ei
      show φ2 (M.next + (id - ids.length)) = φ' id
      rw [hφ2' _ (by omega)]
      congr 1; omega
  have haget : ∀ id, (addO M news).get id = if id < M.next then M.get id else nthO news (id - M.next) := fun id => by
    show bif2 (Nat.blt id M.next) (M.get id) (nthO news (id - M.next)) = _
    rw [bif2_eq]
    by_cases h1 : id < M.next
    · rw [if_pos h1, if_pos (by simpa [Nat.blt_eq] using h1)]
    · rw [if_neg h1, if_neg (by simpa [Nat.blt_eq] using h1)]
  have hnth : ∀ i, nthO news i = M'.get (ids.length + i) := fun i => by
    unfold nthO
    rw [nth?_eq, hnews]
    split
    · rfl
    · rename_i h1; exact ((hr'.fresh _ (by omega)).1).symm
  have hbnew : ∀ j p, ids.length ≤ j → isOwn (M'.get j) → φ' j = some (some p) → w.heap.size ≤ p.b := fun j p hj ho hp => by
    rcases Nat.lt_or_ge p.b w.heap.size with h1 | h1
    · obtain ⟨id', p', o1, _, _, o4⟩ := he.old j p ho hp h1
      have hl := o4 hj
      have : (memL ids.length (ids.map M.get)).get id' = .dead := (hr1.fresh id' (by simpa [memL] using hl)).1
      rw [this] at o1; exact o1.elim
    · exact h1
  have hbold : ∀ id p, isOwn (M.get id) → φ id = some (some p) → p.b < w.heap.size := fun id p ho hp => hr.lt id p ho hp
  refine .inl ⟨u, rfl, φ2, _, addO M news, hx, ren1_rel hback hxu, ?_, ?_⟩
  · refine ⟨fun id => ?_, fun id id' p p' ho ho' hp hp' e => ?_, fun id p ho hp => ?_, fun id hid => ?_, Nat.le_trans hr.size he.size⟩
    · rw [haget]
      split
      · exact (hr.objs id).step hle (fun b hb => hkeep b (Nat.lt_of_lt_of_le hb hr.size)) (fun ho p hp => hkeep _ (hr.lt id p ho hp))
      · rename_i h1
        rw [hnth]
        have hfl2 : M'.get (ids.length + (id - M.next)) = .dead ∨ flatO (M'.get (ids.length + (id - M.next))) = true := by
          rcases Nat.lt_or_ge (ids.length + (id - M.next)) M'.next with h2 | h2
          · refine .inr (List.all_eq_true.1 hfn _ (List.mem_of_getElem? (i := id - M.next) ?_))
            show news[id - M.next]? = _
            rw [hnews, if_pos h2]
          · exact .inl (hr'.fresh _ h2).1
        rcases hfl2 with h3 | h3
        · rw [h3]; exact hr'.glob
        · exact (hr'.objs _).move h3 (hφ2' id h1)
    · rw [haget] at ho ho'
      by_cases h1 : id < M.next
      · rw [if_pos h1] at ho
        rw [hφ2 id h1] at hp
        by_cases h2 : id' < M.next
        · rw [if_pos h2] at ho'
          rw [hφ2 id' h2] at hp'
          exact hr.sep id id' p p' ho ho' hp hp' e
        · rw [if_neg h2, hnth] at ho'
          rw [hφ2' id' h2] at hp'
          have a := hbold id p ho hp
          have b := hbnew _ p' (by omega) ho' hp'
          omega
      · rw [if_neg h1, hnth] at ho
        rw [hφ2' id h1] at hp
        by_cases h2 : id' < M.next
        · rw [if_pos h2] at ho'
          rw [hφ2 id' h2] at hp'
          have a := hbold id' p' ho' hp'
          have b := hbnew _ p (by omega) ho hp
          omega
        · rw [if_neg h2, hnth] at ho'
          rw [hφ2' id' h2] at hp'
          have := hr'.sep _ _ p p' ho ho' hp hp' e
          omega
    · rw [haget] at ho
      by_cases h1 : id < M.next
      · rw [if_pos h1] at ho; rw [hφ2 id h1] at hp; exact hr.high id p ho hp
      · rw [if_neg h1, hnth] at ho; rw [hφ2' id h1] at hp
        have b := hbnew _ p (by omega) ho hp
        exact Nat.le_trans hr.size b
    · have hid : M.next + news.length ≤ id := hid
      rw [haget, if_neg (by omega), hφ2' id (by omega), hnth]
      exact hr'.fresh _ (by omega)
  · refine ⟨hle, hφ2, Nat.le_add_right _ _, rfl, he.os, he.tape, he.output, he.size, fun b hb _ => hkeep b hb, fun id p ho hp hb => ?_⟩
    rw [haget] at ho
    by_cases h1 : id < M.next
    · rw [if_pos h1] at ho; rw [hφ2 id h1] at hp
      exact ⟨id, p, ho, hp, rfl, fun h => h⟩
    · rw [if_neg h1, hnth] at ho; rw [hφ2' id h1] at hp
      have b := hbnew _ p (by omega) ho hp
      omega
noncomputable def T.panE {α : Type} (x : T α) : Option AV := @T.casesOn α (fun _ => Option AV) x (fun _ => none) (fun _ _ _ => none) (fun v _ => some v) (fun _ _ => none) none
theorem H.pn {α : Type} {Q : α → Prop} {Qp : AV → Mem → Prop} {x : T α} (n : Nat) (v : AV) (hc : T.panE (T.skip n x) = some v) (hq : ∀ M, Qp v M) : H x Q Qp := by
  refine H.skip n ?_
  cases h : T.skip n x with
  | pan a M =>
    rw [h] at hc
    have : a = v := Option.some.inj hc
    subst this
    exact ⟨hq M⟩
  | _ => rw [h] at hc; cases hc
end Go.Eng

set_option autoImplicit false
namespace Go.Eng
open Go Go.RowKit
/-! ## Contracts whose answer is a tuple that holds structs -/
noncomputable def renT (ρ : Rho) (x : AV) : AV :=
  @AV.casesOn (fun _ => AV) x .i .b .s .v (fun id r c => onId (ρ id) fun j => .ptr j r c) (fun id r n cap => onId (ρ id) fun j => .sl j r n cap) .e (fun id => onId (ρ id) .mp)
    (fun f l => .fn f (mapL (ren0 ρ) l)) (fun t x => .ifc t (ren0 ρ x)) (fun l => .agg (mapL (ren0 ρ) l)) (fun l => .tup (mapL (ren1 ρ) l)) .top
theorem renT_rel {φ φ' : Phi} {ρ : Rho} (hρ : RenOk φ φ' ρ) {x : AV} {v : Value} (h : AVRel φ x v) : AVRel φ' (renT ρ x) v := by
  cases x with
  | tup l => cases h with | tup l a h => exact .tup _ a (ren1s_rel hρ h)
  | _ => exact ren1_rel hρ h
noncomputable def viewKT (g : List AV → List AObj → T (AV × List AObj)) (ids : List Nat) (args : List AV) (M : Mem) : T (AV × Mem) :=
  .ck (ids.all (fun i => Nat.blt i M.next) && (mapL M.get ids).all flatO) ((T.nopan (g (mapL (ren1 fun id => idxOf ids id 0) args) (mapL M.get ids))).bind fun r =>
    .ck (r.2.all flatO) (.ret (renT (fun j => some (backI ids M.next j)) r.1, addO M r.2)))
noncomputable def viewST (g : List AV → List AObj → T (AV × List AObj)) : List AV → Mem → T (AV × Mem) := fun args M => viewKT g (dedupL (catL ids1 args)) args M
theorem sOk_viewT {P : Program} {tt : TT} (tok : TTok P tt) {F : Nat → Option FI} (hF : FOk P F) (hmix : P.follows .mixedOrders = true) {N : NB} {S R : Nat → Option (List AV → Mem → T (AV × Mem))} (h0 : SOk P N S) (hR : SOk P N R) {L d n : Nat}
    {g : List AV → List AObj → T (AV × List AObj)} (h : ∀ args objs Q, (g args objs).holds Q (fun _ _ => False) → H (evFun P tt S F L d n args (memL objs.length objs)) (fun x => Q (resV objs.length x)) (fun _ _ => False)) (hSn : S n = none := by kernel_rfl) :
    SOk P N (fun f => bif2 (Nat.beq f n) (some (viewST g)) (R f)) := by
  intro f s hs args M Q Qp hq
  simp only [bif2_eq] at hs
  split at hs
  case isFalse => exact hR f s hs args M Q Qp hq
  rename_i hf
  obtain rfl : f = n := Nat.eq_of_beq_eq_true hf
  cases hs
  have hq : (viewKT g (dedupL (catL ids1 args)) args M).holds Q Qp := hq
  have hnd := dedupL_nodup (catL ids1 args)
  revert hq hnd
  generalize dedupL (catL ids1 args) = ids
  intro hq hnd
  unfold viewKT at hq
  obtain ⟨hck, hq⟩ := ck_ok hq
  obtain ⟨hlt, hfl⟩ := Bool.and_eq_true_iff.1 hck
  have hlt : ∀ i ∈ ids, i < M.next := fun i hi => by have := List.all_eq_true.1 hlt i hi; simpa [Nat.blt_eq] using this
  rw [mapL_eq M.get] at hq hfl
  have hfl : ∀ i ∈ ids, flatO (M.get i) = true := fun i hi => List.all_eq_true.1 hfl _ (List.mem_map.2 ⟨i, hi, rfl⟩)
  rw [T.holds_bind] at hq
  have hq := T.nopan_ok hq
  have hrun := h _ _ _ hq
  rw [List.length_map] at hrun
  obtain ⟨k1, k2⟩ := evFun_okA tok h0 hF hmix d hSn _ _ _ _ hrun.out
  refine .inl ⟨k1, fun φ w zs hr hz => ?_⟩
  -- the memory of the arguments alone
  let φ1 : Phi := fun j => (ids[j]?).bind φ
  have hφ1 : ∀ j i, ids[j]? = some i → φ1 j = φ i := fun j i e => by show (ids[j]?).bind φ = _; rw [e]; rfl
  have hget : ∀ j, nthO (ids.map M.get) j = ((ids[j]?).map M.get).getD .dead := fun j => by
    unfold nthO
    rw [nth?_eq, List.getElem?_map]
    cases ids[j]? <;> rfl
  have hr1 : Rep N φ1 (memL ids.length (ids.map M.get)) w := by
    refine ⟨fun j => ?_, fun j j' p p' ho ho' hp hp' e => ?_, fun j p ho hp => ?_, fun j hj => ?_, hr.size⟩
    · show ObjRel N φ1 w j (nthO (ids.map M.get) j)
      rw [hget]
      cases e : ids[j]? with
      | none => exact hr.glob
      | some i => exact (hr.objs i).move (hfl i (List.mem_of_getElem? e)) (hφ1 j i e)
    · have ho : isOwn (nthO (ids.map M.get) j) := ho
      have ho' : isOwn (nthO (ids.map M.get) j') := ho'
      rw [hget] at ho ho'
      cases ei : ids[j]? with
      | none => rw [ei] at ho; exact ho.elim
      | some i =>
        cases ei' : ids[j']? with
        | none => rw [ei'] at ho'; exact ho'.elim
        | some i' =>
          rw [ei] at ho; rw [ei'] at ho'
          rw [hφ1 j i ei] at hp; rw [hφ1 j' i' ei'] at hp'
          have := hr.sep i i' p p' ho ho' hp hp' e
          subst this
          exact nodup_get hnd ei ei'
    · have ho : isOwn (nthO (ids.map M.get) j) := ho
      rw [hget] at ho
      cases ei : ids[j]? with
      | none => rw [ei] at ho; exact ho.elim
      | some i => rw [ei] at ho; rw [hφ1 j i ei] at hp; exact hr.high i p ho hp
    · have hj : ids.length ≤ j := by simpa [memL] using hj
      have e : ids[j]? = none := List.getElem?_eq_none hj
      refine ⟨?_, by show (ids[j]?).bind φ = none; rw [e]; rfl⟩
      show nthO (ids.map M.get) j = .dead
      rw [hget, e]; rfl
  have hren : RenOk φ φ1 fun id => idxOf ids id 0 := fun id j e => by
    obtain ⟨_, e⟩ := idxOf_spec ids id 0 j e
    exact hφ1 j id (by simpa using e)
  refine (k2 φ1 w zs hr1 (ren1s_rel hren hz)).mono fun e w' he => ?_
  rcases he with ⟨u, rfl, φ', x, M', hx, hxu, hr', he⟩ | ⟨u, rfl, φ', x, M', hx, _⟩
  case inr => exact hx.elim
  obtain ⟨hfn, hx⟩ := ck_ok hx
  have hnext : ids.length ≤ M'.next := by have := he.next; simpa [memL] using this
  -- what is as it was
  have hkeep : ∀ b, b < w.heap.size → w'.heap[b]? = w.heap[b]? := fun b hb => he.keep b hb fun id p hl ho _ => by
    have : (memL ids.length (ids.map M.get)).get id = .dead := (hr1.fresh id (by simpa [memL] using hl)).1
    rw [this] at ho; exact ho.elim
  let news := (mapL M'.get (iota M'.next)).drop ids.length
  have hnews : ∀ i, news[i]? = if ids.length + i < M'.next then some (M'.get (ids.length + i)) else none := by
    intro i
    show ((mapL M'.get (iota M'.next)).drop ids.length)[i]? = _
    rw [mapL_eq, iota_eq, List.getElem?_drop, List.getElem?_map]
    split
    · rename_i hlt; rw [List.getElem?_range hlt]; rfl
    · rename_i hlt; rw [List.getElem?_eq_none (by simpa using hlt)]; rfl
  have hnlen : news.length = M'.next - ids.length := by
    show ((mapL M'.get (iota M'.next)).drop ids.length).length = _
    rw [mapL_eq, iota_eq]; simp
  let φ2 : Phi := fun id => if id < M.next then φ id else φ' (ids.length + (id - M.next))
  have hφ2 : ∀ id, id < M.next → φ2 id = φ id := fun id hid => if_pos hid
  have hφ2' : ∀ id, ¬ id < M.next → φ2 id = φ' (ids.length + (id - M.next)) := fun id hid => if_neg hid
  have hle : PhiLe φ φ2 := fun id y e => by
    rcases Nat.lt_or_ge id M.next with h1 | h1
    · rw [hφ2 id h1]; exact e
    · rw [(hr.fresh id h1).2] at e; cases e
  have hback : RenOk φ' φ2 fun j => some (backI ids M.next j) := fun id j e => by
    cases e
    unfold backI
    rw [nth?_eq]
    cases ei : ids[id]? with
    | some i =>
      have hlti := hlt i (List.mem_of_getElem? ei)
      show φ2 i = φ' id
      rw [hφ2 i hlti, he.phi0 id (by have := (List.getElem?_eq_some_iff.1 ei).1; simpa [memL] using this), hφ1 id i ei]
    | none =>
      have : ids.length ≤ id := List.getElem?_eq_none_iff.1 ei
      show φ2 (M.next + (id - ids.length)) = φ' id
      rw [hφ2' _ (by omega)]
      congr 1; omega
  have haget : ∀ id, (addO M news).get id = if id < M.next then M.get id else nthO news (id - M.next) := fun id => by
    show bif2 (Nat.blt id M.next) (M.get id) (nthO news (id - M.next)) = _
    rw [bif2_eq]
    by_cases h1 : id < M.next
    · rw [if_pos h1, if_pos (by simpa [Nat.blt_eq] using h1)]
    · rw [if_neg h1, if_neg (by simpa [Nat.blt_eq] using h1)]
  have hnth : ∀ i, nthO news i = M'.get (ids.length + i) := fun i => by
    unfold nthO
    rw [nth?_eq, hnews]
    split
    · rfl
    · rename_i h1; exact ((hr'.fresh _ (by omega)).1).symm
  have hbnew : ∀ j p, ids.length ≤ j → isOwn (M'.get j) → φ' j = some (some p) → w.heap.size ≤ p.b := fun j p hj ho hp => by
    rcases Nat.lt_or_ge p.b w.heap.size with h1 | h1
    · obtain ⟨id', p', o1, _, _, o4⟩ := he.old j p ho hp h1
      have hl := o4 hj
      have : (memL ids.length (ids.map M.get)).get id' = .dead := (hr1.fresh id' (by simpa [memL] using hl)).1
      rw [this] at o1; exact o1.elim
    · exact h1
  have hbold : ∀ id p, isOwn (M.get id) → φ id = some (some p) → p.b < w.heap.size := fun id p ho hp => hr.lt id p ho hp
  refine .inl ⟨u, rfl, φ2, _, addO M news, hx, renT_rel hback hxu, ?_, ?_⟩
  · refine ⟨fun id => ?_, fun id id' p p' ho ho' hp hp' e => ?_, fun id p ho hp => ?_, fun id hid => ?_, Nat.le_trans hr.size he.size⟩
    · rw [haget]
      split
      · exact (hr.objs id).step hle (fun b hb => hkeep b (Nat.lt_of_lt_of_le hb hr.size)) (fun ho p hp => hkeep _ (hr.lt id p ho hp))
      · rename_i h1
        rw [hnth]
        have hfl2 : M'.get (ids.length + (id - M.next)) = .dead ∨ flatO (M'.get (ids.length + (id - M.next))) = true := by
          rcases Nat.lt_or_ge (ids.length + (id - M.next)) M'.next with h2 | h2
          · refine .inr (List.all_eq_true.1 hfn _ (List.mem_of_getElem? (i := id - M.next) ?_))
            show news[id - M.next]? = _
            rw [hnews, if_pos h2]
          · exact .inl (hr'.fresh _ h2).1
        rcases hfl2 with h3 | h3
        · rw [h3]; exact hr'.glob
        · exact (hr'.objs _).move h3 (hφ2' id h1)
    · rw [haget] at ho ho'
      by_cases h1 : id < M.next
      · rw [if_pos h1] at ho
        rw [hφ2 id h1] at hp
        by_cases h2 : id' < M.next
        · rw [if_pos h2] at ho'
          rw [hφ2 id' h2] at hp'
          exact hr.sep id id' p p' ho ho' hp hp' e
        · rw [if_neg h2, hnth] at ho'
          rw [hφ2' id' h2] at hp'
          have a := hbold id p ho hp
          have b := hbnew _ p' (by omega) ho' hp'
          omega
      · rw [if_neg h1, hnth] at ho
        rw [hφ2' id h1] at hp
        by_cases h2 : id' < M.next
        · rw [if_pos h2] at ho'
          rw [hφ2 id' h2] at hp'
          have a := hbold id' p' ho' hp'
          have b := hbnew _ p (by omega) ho hp
          omega
        · rw [if_neg h2, hnth] at ho'
          rw [hφ2' id' h2] at hp'
          have := hr'.sep _ _ p p' ho ho' hp hp' e
          omega
    · rw [haget] at ho
      by_cases h1 : id < M.next
      · rw [if_pos h1] at ho; rw [hφ2 id h1] at hp; exact hr.high id p ho hp
      · rw [if_neg h1, hnth] at ho; rw [hφ2' id h1] at hp
        have b := hbnew _ p (by omega) ho hp
        exact Nat.le_trans hr.size b
    · have hid : M.next + news.length ≤ id := hid
      rw [haget, if_neg (by omega), hφ2' id (by omega), hnth]
      exact hr'.fresh _ (by omega)
  · refine ⟨hle, hφ2, Nat.le_add_right _ _, rfl, he.os, he.tape, he.output, he.size, fun b hb _ => hkeep b hb, fun id p ho hp hb => ?_⟩
    rw [haget] at ho
    by_cases h1 : id < M.next
    · rw [if_pos h1] at ho; rw [hφ2 id h1] at hp
      exact ⟨id, p, ho, hp, rfl, fun h => h⟩
    · rw [if_neg h1, hnth] at ho; rw [hφ2' id h1] at hp
      have b := hbnew _ p (by omega) ho hp
      omega
end Go.Eng

set_option autoImplicit false
namespace Go.Eng
open Go Go.RowKit
/-! ## A contract of a function that writes its one argument's rows: they are not told behind it -/
noncomputable def killM (M : Mem) (id : Nat) : Mem := ⟨M.next, M.lock, fun i => bif2 (Nat.beq i id) .dead (M.get i)⟩
noncomputable def killS (ok : Nat → Nat → Option Nat → AObj → T Bool) (r : AV) (g : List AV → List AObj → T (AV × List AObj)) : List AV → Mem → T (AV × Mem)
  | [.sl id off n cap], M => .ck (Nat.blt id M.next && (Nat.ble M.lock id && flatO (M.get id))) ((T.nopan (ok off n cap (M.get id))).bind fun _ => .ret (r, killM M id))
  | args, M => viewS g args M
theorem sOk_kill {P : Program} {tt : TT} (tok : TTok P tt) {F : Nat → Option FI} (hF : FOk P F) (hmix : P.follows .mixedOrders = true) {N : NB} {S R : Nat → Option (List AV → Mem → T (AV × Mem))} (h0 : SOk P N S) (hR : SOk P N R) {L d n : Nat}
    {ok : Nat → Nat → Option Nat → AObj → T Bool} {r : AV} (hrel : ∀ (φ φ' : Phi) v, AVRel φ r v → AVRel φ' r v) 
    (h : ∀ off m cap o Q, (ok off m cap o).holds Q (fun _ _ => False) → isOwn o ∧ (∃ b, Q b) ∧ H (evFun P tt S F L d n [.sl 0 off m cap] (memL 0 [o])) (fun x => x.1 = r) (fun _ _ => False)) {g : List AV → List AObj → T (AV × List AObj)} (hv : SOk P N (fun f => bif2 (Nat.beq f n) (some (viewS g)) (R f))) (hSn : S n = none := by kernel_rfl) :
    SOk P N (fun f => bif2 (Nat.beq f n) (some (killS ok r g)) (R f)) := by
  intro f s hs args M Q Qp hq
  simp only [bif2_eq] at hs
  split at hs
  case isFalse => exact hR f s hs args M Q Qp hq
  rename_i hf
  obtain rfl : f = n := Nat.eq_of_beq_eq_true hf
  cases hs
  unfold killS at hq
  split at hq
  case h_2 => exact hv f (viewS g) (by simp only [bif2_eq]; rw [if_pos (Nat.beq_refl f)]) _ M Q Qp hq
  rename_i id off m cap
  obtain ⟨hck, hq⟩ := ck_ok hq
  obtain ⟨hlt, hck⟩ := Bool.and_eq_true_iff.1 hck
  obtain ⟨hlk, hfl⟩ := Bool.and_eq_true_iff.1 hck
  have hlt : id < M.next := by simpa [Nat.blt_eq] using hlt
  have hlk : M.lock ≤ id := Nat.le_of_ble_eq_true hlk
  rw [T.holds_bind] at hq
  have hq := T.nopan_ok hq
  obtain ⟨hown, ⟨_, hq⟩, hrun⟩ := h _ _ _ _ _ hq
  obtain ⟨k1, k2⟩ := evFun_okA tok h0 hF hmix d hSn _ _ _ _ hrun.out
  refine .inl ⟨k1, fun φ w zs hr hz => ?_⟩
  let φ1 : Phi := fun j => if j = 0 then φ id else none
  have hg0 : ∀ j, (memL 0 [M.get id]).get j = if j = 0 then M.get id else .dead := fun j => by
    cases j with
    | zero => rfl
    | succ j => rfl
  have hr1 : Rep N φ1 (memL 0 [M.get id]) w := by
    refine ⟨fun j => ?_, fun j j' p p' ho ho' hp hp' e => ?_, fun j p ho hp => ?_, fun j hj => ?_, hr.size⟩
    · rw [hg0]
      split
      · rename_i e; subst e; exact ObjRel.move (φ' := φ1) (id' := 0) hfl (show φ1 0 = φ id from if_pos rfl) (hr.objs id)
      · exact hr.glob
    · rw [hg0] at ho ho'
      have e1 : j = 0 := by
        rcases Nat.eq_zero_or_pos j with h | h
        · exact h
        · rw [if_neg (by omega)] at ho; exact ho.elim
      have e2 : j' = 0 := by
        rcases Nat.eq_zero_or_pos j' with h | h
        · exact h
        · rw [if_neg (by omega)] at ho'; exact ho'.elim
      omega
    · rw [hg0] at ho
      split at ho
      · rename_i e
        subst e
        exact hr.high id p ho hp
      · exact ho.elim
    · have hj : 1 ≤ j := hj
      exact ⟨by rw [hg0, if_neg (by omega)], if_neg (by omega)⟩
  have hz1 : AVsRel φ1 [.sl 0 off m cap] zs := by
    cases hz with
    | cons hz ht =>
      cases ht
      refine .cons ?_ .nil
      cases hz with
      | sl _ _ _ _ x cc h1 h2 h3 h4 h5 h6 => exact AVRel.sl (φ := φ1) 0 _ _ _ x cc ((show φ1 0 = φ id from if_pos rfl).trans h1) h2 h3 h4 h5 h6
  refine (k2 φ1 w zs hr1 hz1).mono fun e w' he => ?_
  rcases he with ⟨u, rfl, φ', x, M', hx, hxu, hr', he⟩ | ⟨u, rfl, φ', x, M', hx, _⟩
  case inr => exact hx.elim
  have hx : x = r := hx
  subst hx
  -- what is as it was: all blocks but the argument's
  have hkeep : ∀ b, b < w.heap.size → (∀ p, φ id = some (some p) → p.b ≠ b) → w'.heap[b]? = w.heap[b]? := fun b hb hne => he.keep b hb fun j p hl ho hp => by
    rw [hg0] at ho
    split at ho
    · rename_i e; subst e; exact hne p hp
    · exact ho.elim
  have hkget : ∀ i, (killM M id).get i = if i = id then .dead else M.get i := fun i => by
    show bif2 (Nat.beq i id) .dead (M.get i) = _
    rw [bif2_eq]
    by_cases e : i = id
    · subst e; rw [if_pos (Nat.beq_refl _), if_pos rfl]
    · rw [if_neg (fun h => e (Nat.eq_of_beq_eq_true h)), if_neg e]
  have hkown : ∀ i, isOwn ((killM M id).get i) → i ≠ id ∧ isOwn (M.get i) := fun i ho => by
    rw [hkget] at ho
    split at ho
    · exact ho.elim
    · rename_i e; exact ⟨e, ho⟩
  refine .inl ⟨u, rfl, φ, _, killM M id, hq, hrel _ _ _ hxu, ?_, ?_⟩
  · refine ⟨fun i => ?_, fun i i' p p' ho ho' hp hp' e => ?_, fun i p ho hp => ?_, fun i hi => ?_, Nat.le_trans hr.size he.size⟩
    · rw [hkget]
      split
      · exact hr'.glob
      · rename_i hne
        refine (hr.objs i).step (.refl _) (fun b hb => hkeep b (Nat.lt_of_lt_of_le hb hr.size) fun p hp e => ?_) (fun ho p hp => hkeep _ (hr.lt i p ho hp) fun p' hp' e => ?_)
        · have := hr.high id p hown hp; omega
        · exact hne (hr.sep i id p p' ho hown hp hp' e.symm)
    · exact hr.sep i i' p p' (hkown i ho).2 (hkown i' ho').2 hp hp' e
    · exact hr.high i p (hkown i ho).2 hp
    · have hi : M.next ≤ i := hi
      rw [hkget, if_neg (by omega)]
      exact hr.fresh i hi
  · refine ⟨.refl _, fun _ _ => rfl, Nat.le_refl _, rfl, he.os, he.tape, he.output, he.size, fun b hb hne => hkeep b hb fun p hp => hne id p hlk hown hp, fun i p ho hp hb => ⟨i, p, (hkown i ho).2, hp, rfl, fun h => h⟩⟩
end Go.Eng
