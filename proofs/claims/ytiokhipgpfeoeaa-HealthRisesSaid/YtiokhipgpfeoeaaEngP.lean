/- Lemmas about the evaluator of the code. -/
import Derived.Test.YtiokhipgpfeoeaaEngO
set_option linter.all false
set_option linter.deprecated false
set_option autoImplicit false
namespace Go.Eng
open Go Go.RowKit

abbrev hd0 : Bool × Nat × Nat := (true, 0, 0)
inductive ColFact : SK → Col → Prop
  | int (k : IntKind) (l : List Int) (h : ∀ x ∈ l, (Lit.int k x).wf = true) : ColFact (.int k) (.ci k l)
  | bool (l : List Bool) : ColFact .bool (.cb l)
  | str (l : List ByteArray) (h : ∀ x ∈ l, x.size ≤ maxLen) : ColFact .str (.cs l)
  | flt (k : FloatKind) (l : List Nat) (h : ∀ x ∈ l, (Lit.float k x).wf = true) : ColFact (.flt k) (.cf k l)
  | sl (m : Nat) (ks : Nat → SK) (h : List (Bool × Nat × Nat)) (sub : Nat → List Col) (hm : ∀ j, (sub j).length = m)
      (hb : ∀ j, (h.getD j hd0).2.1 ≤ (h.getD j hd0).2.2 ∧ (h.getD j hd0).2.2 ≤ maxLen ∧ ((h.getD j hd0).1 = true → (h.getD j hd0).2.1 = 0))
      (hc : ∀ j, ∀ (c : Nat) (col : Col), (sub j)[c]? = some col → col.len = (h.getD j hd0).2.1)
      (hf : ∀ j, ∀ (c : Nat) (col : Col), (sub j)[c]? = some col → ColFact (ks c) col) : ColFact (.sl m ks) (.cl h sub)

def intOf : Value → Int
  | .int _ m => m
  | _ => 0
def boolOf : Value → Bool
  | .bool m => m
  | _ => false
def stringOf : Value → ByteArray
  | .string m => m
  | _ => .empty
def floatOf : Value → Nat
  | .float _ m => m
  | _ => 0
theorem range_getD {α : Type} (f : Nat → α) (d : α) {n j : Nat} (hj : j < n) : ((List.range n).map f).getD j d = f j := by
  simp [List.getD_eq_getElem?_getD, List.getElem?_range hj]
def RowAt (w : World) (m : Nat) (ks : Nat → SK) (v : Value) (e : Bool × Nat × Nat) (cols : List Col) : Prop :=
  cols.length = m ∧ (e.2.1 ≤ e.2.2 ∧ e.2.2 ≤ maxLen ∧ (e.1 = true → e.2.1 = 0)) ∧ (∀ (c : Nat) (col : Col), cols[c]? = some col → col.len = e.2.1 ∧ ColFact (ks c) col) ∧
        ∃ A : Option Addr, v = .slice A e.2.1 e.2.2 ∧ e.1 = A.isNone ∧ (A = none → e.2.1 = 0) ∧ (∀ a, A = some a → 0 < e.2.1 → a.block < w.heap.size ∧ a.spot = none) ∧
          ∃ zf : Nat → Nat → Value, (∀ a, A = some a → ∀ j, j < e.2.1 → ∀ (c : Nat) (col : Col), cols[c]? = some col → w.cell? ⟨a.block, a.off + (j * cols.length + c), none⟩ = some (zf j c)) ∧
            ∀ j, j < e.2.1 → ∀ (c : Nat) (col : Col), cols[c]? = some col → ColRel w.heap.size w col j (zf j c)
theorem col_ex {w : World} (k : SK) : ∀ (n : Nat) (z : Nat → Value), (∀ j, j < n → CellOk w k (z j)) → ∃ col, ColFact k col ∧ col.len = n ∧ ∀ j, j < n → ColRel w.heap.size w col j (z j) := by
  induction k with
  | int k =>
    intro n z h
    have : ∃ f : Nat → Int, ∀ j, j < n → z j = .int k (f j) ∧ (Lit.int k (f j)).wf = true := by
      refine ⟨fun j => intOf (z j), fun j hj => ?_⟩
      have := h j hj
      simp only
      generalize z j = v at this ⊢
      cases this with | int _ m hm => exact ⟨rfl, hm⟩
    obtain ⟨f, hf⟩ := this
    refine ⟨.ci k ((List.range n).map f), .int k _ (fun x hx => ?_), by simp [Col.len], fun j hj => ?_⟩
    · obtain ⟨i, hi, rfl⟩ := List.mem_map.1 hx
      exact (hf i (List.mem_range.1 hi)).2
    · rw [(hf j hj).1]
      have := ColRel.ci (N := w.heap.size) (w := w) k ((List.range n).map f) j
      rwa [range_getD f 0 hj] at this
  | bool =>
    intro n z h
    have : ∃ f : Nat → Bool, ∀ j, j < n → z j = .bool (f j) := by
      refine ⟨fun j => boolOf (z j), fun j hj => ?_⟩
      have := h j hj
      simp only
      generalize z j = v at this ⊢
      cases this with | bool m => rfl
    obtain ⟨f, hf⟩ := this
    refine ⟨.cb ((List.range n).map f), .bool _, by simp [Col.len], fun j hj => ?_⟩
    rw [hf j hj]
    have := ColRel.cb (N := w.heap.size) (w := w) ((List.range n).map f) j
    rwa [range_getD f _ hj] at this
  | str =>
    intro n z h
    have : ∃ f : Nat → ByteArray, ∀ j, j < n → z j = .string (f j) ∧ (f j).size ≤ maxLen := by
      refine ⟨fun j => stringOf (z j), fun j hj => ?_⟩
      have := h j hj
      simp only
      generalize z j = v at this ⊢
      cases this with | str m hm => exact ⟨rfl, hm⟩
    obtain ⟨f, hf⟩ := this
    refine ⟨.cs ((List.range n).map f), .str _ (fun x hx => ?_), by simp [Col.len], fun j hj => ?_⟩
    · obtain ⟨i, hi, rfl⟩ := List.mem_map.1 hx
      exact (hf i (List.mem_range.1 hi)).2
    · rw [(hf j hj).1]
      have := ColRel.cs (N := w.heap.size) (w := w) ((List.range n).map f) j
      rwa [range_getD f _ hj] at this
  | flt k =>
    intro n z h
    have : ∃ f : Nat → Nat, ∀ j, j < n → z j = .float k (f j) ∧ (Lit.float k (f j)).wf = true := by
      refine ⟨fun j => floatOf (z j), fun j hj => ?_⟩
      have := h j hj
      simp only
      generalize z j = v at this ⊢
      cases this with | flt _ m hm => exact ⟨rfl, hm⟩
    obtain ⟨f, hf⟩ := this
    refine ⟨.cf k ((List.range n).map f), .flt k _ (fun x hx => ?_), by simp [Col.len], fun j hj => ?_⟩
    · obtain ⟨i, hi, rfl⟩ := List.mem_map.1 hx
      exact (hf i (List.mem_range.1 hi)).2
    · rw [(hf j hj).1]
      have := ColRel.cf (N := w.heap.size) (w := w) k ((List.range n).map f) j
      rwa [range_getD f 0 hj] at this
  | sl m ks ih =>
    intro n z h
    -- one row
    have one : ∀ v, CellOk w (.sl m ks) v → ∃ (e : Bool × Nat × Nat) (cols : List Col), RowAt w m ks v e cols := by
      intro v hv
      cases hv with
      | slnil =>
        have : ∃ f : Nat → Col, ∀ c, ColFact (ks c) (f c) ∧ (f c).len = 0 := by
          refine ⟨fun c => Classical.choose (ih c 0 (fun _ => undef) (fun j hj => absurd hj (Nat.not_lt_zero _))), fun c => ?_⟩
          have := Classical.choose_spec (ih c 0 (fun _ => undef) (fun j hj => absurd hj (Nat.not_lt_zero _)))
          exact ⟨this.1, this.2.1⟩
        obtain ⟨f, hf⟩ := this
        refine ⟨(true, 0, 0), (List.range m).map f, by simp, ⟨Nat.le_refl _, Nat.zero_le _, fun _ => rfl⟩, fun c col hc => ?_, none, rfl, rfl, fun _ => rfl, fun a ha => (by cases ha), fun _ _ => undef, fun a ha => (by cases ha), fun j hj => absurd hj (Nat.not_lt_zero _)⟩
        have hcm : c < m := by simpa using (List.getElem?_eq_some_iff.1 hc).1
        simp only [List.getElem?_map, List.getElem?_range hcm, Option.map_some, Option.some.injEq] at hc
        subst hc
        exact ⟨(hf c).2, (hf c).1⟩
      | sl _ _ a len cap zf h1 h2 hsp hz hc =>
        have : ∃ f : Nat → Col, ∀ c, c < m → ColFact (ks c) (f c) ∧ (f c).len = len ∧ ∀ j, j < len → ColRel w.heap.size w (f c) j (zf j c) := by
          refine ⟨fun c => if hcm : c < m then Classical.choose (ih c len (fun j => zf j c) (fun j hj => hc j hj c hcm)) else .cb [], fun c hcm => ?_⟩
          simp only [dif_pos hcm]
          exact Classical.choose_spec (ih c len (fun j => zf j c) (fun j hj => hc j hj c hcm))
        obtain ⟨f, hf⟩ := this
        have hget : ∀ (c : Nat) (col : Col), ((List.range m).map f)[c]? = some col → c < m ∧ col = f c := by
          intro c col hcol
          have hcm : c < m := by simpa using (List.getElem?_eq_some_iff.1 hcol).1
          simp only [List.getElem?_map, List.getElem?_range hcm, Option.map_some, Option.some.injEq] at hcol
          exact ⟨hcm, hcol.symm⟩
        refine ⟨(false, len, cap), (List.range m).map f, by simp, ⟨h1, h2, fun e => (by cases e)⟩, fun c col hcol => ?_, some a, rfl, rfl, fun e => (by cases e), fun b hb hp => (by cases hb; exact hsp hp), zf, fun b hb j hj c col hcol => ?_, fun j hj c col hcol => ?_⟩
        · obtain ⟨hcm, rfl⟩ := hget c col hcol
          exact ⟨(hf c hcm).2.1, (hf c hcm).1⟩
        · cases hb
          obtain ⟨hcm, rfl⟩ := hget c col hcol
          simpa using hz j hj c hcm
        · obtain ⟨hcm, rfl⟩ := hget c col hcol
          exact (hf c hcm).2.2 j hj
    have : ∃ (e : Nat → Bool × Nat × Nat) (sub : Nat → List Col), ∀ j, RowAt w m ks (if j < n then z j else .slice none 0 0) (e j) (sub j) := by
      have h' : ∀ j, CellOk w (.sl m ks) (if j < n then z j else .slice none 0 0) := fun j => by
        split
        · rename_i hj; exact h j hj
        · exact .slnil m ks
      refine ⟨fun j => Classical.choose (one _ (h' j)), fun j => Classical.choose (Classical.choose_spec (one _ (h' j))), fun j => ?_⟩
      exact Classical.choose_spec (Classical.choose_spec (one _ (h' j)))
    obtain ⟨e, sub, hes⟩ := this
    have hlen : ((List.range n).map e).length = n := by simp
    have hget : ∀ j, ((List.range n).map e).getD j hd0 = if j < n then e j else hd0 := fun j => by
      split
      · rename_i hj; exact range_getD e hd0 hj
      · rename_i hj; rw [List.getD_eq_getElem?_getD, List.getElem?_eq_none (by simpa using hj)]; rfl
    have hzero : ∀ j, ¬ j < n → (e j).2.1 = 0 := fun j hj => by
      obtain ⟨_, _, _, A, h4, _⟩ := hes j
      rw [if_neg hj] at h4
      injection h4 with _ h4 _
      exact h4.symm
    refine ⟨.cl ((List.range n).map e) sub, .sl m ks _ sub (fun j => (hes j).1) (fun j => ?_) (fun j c col hc => ?_) (fun j c col hc => ((hes j).2.2.1 c col hc).2), by simp [Col.len], fun j hj => ?_⟩
    · rw [hget]
      split
      · exact (hes j).2.1
      · exact ⟨Nat.le_refl _, Nat.zero_le _, fun _ => rfl⟩
    · rw [hget]
      split
      · exact ((hes j).2.2.1 c col hc).1
      · rename_i hj
        rw [((hes j).2.2.1 c col hc).1, hzero j hj]
    · obtain ⟨h1, h2, h3, A, h4, h5, h6, h7, zf, h8, h9⟩ := hes j
      rw [if_pos hj] at h4
      rw [h4]
      have e1 := range_getD e hd0 hj
      have := ColRel.cl (N := w.heap.size) (w := w) ((List.range n).map e) sub j A zf (by rw [e1]; exact fun c col hc => (h3 c col hc).1) (by rw [e1]; exact h2.1) (by rw [e1]; exact h5) (by rw [e1]; exact h6) (by rw [e1]; exact h7) (by rw [e1]; exact h8) (by rw [e1]; exact h9)
      rw [e1] at this
      exact this
end Go.Eng
