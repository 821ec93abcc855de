/- Lemmas about the evaluator of the code. -/
import Derived.Test.YtiokhipgpfeoeaaEngW
set_option linter.all false
set_option linter.deprecated false
set_option autoImplicit false
namespace Go.Eng
open Go Go.RowKit

/-! ## What a column of a shape is -/
def FitN (n : Nat) (ks : List SK) (cols : List Col) : Prop := cols.length = ks.length ∧ ∀ (c : Nat) (k : SK) (col : Col), ks[c]? = some k → cols[c]? = some col → ColFact k col ∧ col.len = n
theorem FitN.cons {n : Nat} {k : SK} {ks : List SK} {cols : List Col} (h : FitN n (k :: ks) cols) : ∃ c cs, cols = c :: cs ∧ ColFact k c ∧ c.len = n ∧ FitN n ks cs := by
  obtain ⟨h1, h2⟩ := h
  cases cols with
  | nil => simp at h1
  | cons c cs =>
    obtain ⟨a, b⟩ := h2 0 k c rfl rfl
    exact ⟨c, cs, rfl, a, b, by simpa using h1, fun i k' c' hk hc => h2 (i + 1) k' c' (by simpa using hk) (by simpa using hc)⟩
theorem FitN.nil {n : Nat} {cols : List Col} (h : FitN n [] cols) : cols = [] := List.length_eq_zero_iff.1 h.1
theorem fit_int {k : IntKind} {c : Col} (h : ColFact (.int k) c) : ∃ l, c = .ci k l ∧ ∀ x ∈ l, (Lit.int k x).wf = true := by
  cases h with
  | int k l h => exact ⟨l, rfl, h⟩
theorem fit_int1 {k : IntKind} {c : Col} (h : ColFact (.int k) c) (h1 : c.len = 1) : ∃ x, c = .ci k [x] ∧ (Lit.int k x).wf = true := by
  obtain ⟨l, rfl, h'⟩ := fit_int h
  match l, h1, h' with
  | [x], _, h' => exact ⟨x, rfl, h' x (by simp)⟩
theorem fit_bool {c : Col} (h : ColFact .bool c) : ∃ l, c = .cb l := by
  cases h with
  | bool l => exact ⟨l, rfl⟩
theorem fit_bool1 {c : Col} (h : ColFact .bool c) (h1 : c.len = 1) : ∃ x, c = .cb [x] := by
  obtain ⟨l, rfl⟩ := fit_bool h
  match l, h1 with
  | [x], _ => exact ⟨x, rfl⟩
theorem fit_str {c : Col} (h : ColFact .str c) : ∃ l, c = .cs l ∧ ∀ x ∈ l, x.size ≤ maxLen := by
  cases h with
  | str l h => exact ⟨l, rfl, h⟩
theorem fit_str1 {c : Col} (h : ColFact .str c) (h1 : c.len = 1) : ∃ x, c = .cs [x] ∧ x.size ≤ maxLen := by
  obtain ⟨l, rfl, h'⟩ := fit_str h
  match l, h1, h' with
  | [x], _, h' => exact ⟨x, rfl, h' x (by simp)⟩
theorem fit_flt {k : FloatKind} {c : Col} (h : ColFact (.flt k) c) : ∃ l, c = .cf k l ∧ ∀ x ∈ l, (Lit.float k x).wf = true := by
  cases h with
  | flt k l h => exact ⟨l, rfl, h⟩
theorem fit_sl {m : Nat} {ks : List SK} {d : SK} {c : Col} (h : ColFact (.sl m fun i => ks.getD i d) c) (hm : m = ks.length) : ∃ hd sub, c = .cl hd sub ∧
    ∀ j, (hd.getD j hd0).2.1 ≤ (hd.getD j hd0).2.2 ∧ (hd.getD j hd0).2.2 ≤ maxLen ∧ ((hd.getD j hd0).1 = true → (hd.getD j hd0).2.1 = 0) ∧ FitN (hd.getD j hd0).2.1 ks (sub j) := by
  cases h with
  | sl m _ h sub h1 hb hc hf =>
    refine ⟨h, sub, rfl, fun j => ⟨(hb j).1, (hb j).2.1, (hb j).2.2, by rw [h1 j, hm], fun c k col hk hcol => ⟨?_, hc j c col hcol⟩⟩⟩
    have := hf j c col hcol
    dsimp only at this
    rwa [List.getD_eq_getElem?_getD, hk] at this
theorem fit_sl1 {m : Nat} {ks : List SK} {d : SK} {c : Col} (h : ColFact (.sl m fun i => ks.getD i d) c) (hm : m = ks.length) (h1 : c.len = 1) : ∃ nl n cap sub, c = .cl [(nl, n, cap)] sub ∧ n ≤ cap ∧ cap ≤ maxLen ∧ (nl = true → n = 0) ∧ FitN n ks (sub 0) := by
  obtain ⟨hd, sub, rfl, hh⟩ := fit_sl h hm
  match hd, h1, hh with
  | [(nl, n, cap)], _, hh =>
    obtain ⟨a, b, c, d⟩ := hh 0
    exact ⟨nl, n, cap, sub, rfl, a, b, c, d⟩
theorem skolem {α : Type} {P : Nat → α → Prop} {F : α → List Col} {sub : Nat → List Col} (h : ∀ j, ∃ y, sub j = F y ∧ P j y) : ∃ Y : Nat → α, sub = (fun j => F (Y j)) ∧ ∀ j, P j (Y j) :=
  ⟨fun j => Classical.choose (h j), funext fun j => (Classical.choose_spec (h j)).1, fun j => (Classical.choose_spec (h j)).2⟩
end Go.Eng
