/- An evaluator of the code of the model, and lemmas of its proof of soundness: what it tells of a call, the call does; no condition but those that each lemma names. -/
import Derived.Test.YtiokhipgpfeoeaaEng6d
set_option linter.all false
set_option linter.deprecated false
set_option autoImplicit false
namespace Go.Eng
open Go Go.RowKit

theorem pick_ok {α : Type} {f : AV → Option α} {rs c : Nat} {cells : List AV} (n : Nat) : ∀ {l : List α}, pick f rs c cells n = some l → l.length = n ∧ ∀ j, j < n → ∃ a x, cells[j * rs + c]? = some a ∧ f a = some x ∧ l[j]? = some x := by
  induction n with
  | zero => intro l h; cases h; exact ⟨rfl, fun j hj => absurd hj (Nat.not_lt_zero _)⟩
  | succ n ih =>
    intro l h
    simp only [pick, Option.bind_eq_some_iff, Option.map_eq_some_iff] at h
    obtain ⟨l0, h0, x, ⟨a, ha, hx⟩, rfl⟩ := h
    obtain ⟨h1, h2⟩ := ih h0
    refine ⟨by simp [h1], fun j hj => ?_⟩
    by_cases e : j = n
    · subst e; exact ⟨a, x, ha, hx, by rw [List.getElem?_append_right (by omega), h1]; simp⟩
    · obtain ⟨a', x', h3, h4, h5⟩ := h2 j (by omega)
      exact ⟨a', x', h3, h4, by rw [List.getElem?_append_left (by omega)]; exact h5⟩

theorem getD_of {α : Type} {l : List α} {j : Nat} {x d : α} (h : l[j]? = some x) : l.getD j d = x := by simp [List.getD_eq_getElem?_getD, h]
theorem colOf_ok {N : Nat} {φ : Phi} {w : World} {rs c n : Nat} {cells : List AV} {vs : List Value} (hr : AVsRel φ cells vs) {k : CK} {col : Col} (h : colOf rs c n cells k = some col) :
    col.len = n ∧ ∀ j, j < n → ∃ z, vs[j * rs + c]? = some z ∧ ColRel N w col j z := by
  cases k with
  | int k =>
    simp only [colOf, Option.map_eq_some_iff] at h
    obtain ⟨l, hl, rfl⟩ := h
    obtain ⟨h1, h2⟩ := pick_ok n hl
    refine ⟨h1, fun j hj => ?_⟩
    obtain ⟨a, x, h3, h4, h5⟩ := h2 j hj
    obtain ⟨y, hy, hrel⟩ := hr.get _ _ h3
    refine ⟨y, hy, ?_⟩
    have := ColRel.ci (N := N) (w := w) k l j
    rw [getD_of h5] at this
    cases a <;> simp only [iOf, reduceCtorEq] at h4
    split at h4
    · rename_i e; subst e; cases h4; cases hrel; exact this
    · cases h4
  | str =>
    simp only [colOf, Option.map_eq_some_iff] at h
    obtain ⟨l, hl, rfl⟩ := h
    obtain ⟨h1, h2⟩ := pick_ok n hl
    refine ⟨h1, fun j hj => ?_⟩
    obtain ⟨a, x, h3, h4, h5⟩ := h2 j hj
    obtain ⟨y, hy, hrel⟩ := hr.get _ _ h3
    refine ⟨y, hy, ?_⟩
    have := ColRel.cs (N := N) (w := w) l j
    rw [getD_of h5] at this
    cases a <;> simp only [sOf, reduceCtorEq] at h4
    cases h4; cases hrel; exact this
  | bool =>
    simp only [colOf, Option.map_eq_some_iff] at h
    obtain ⟨l, hl, rfl⟩ := h
    obtain ⟨h1, h2⟩ := pick_ok n hl
    refine ⟨h1, fun j hj => ?_⟩
    obtain ⟨a, x, h3, h4, h5⟩ := h2 j hj
    obtain ⟨y, hy, hrel⟩ := hr.get _ _ h3
    refine ⟨y, hy, ?_⟩
    have := ColRel.cb (N := N) (w := w) l j
    rw [getD_of h5] at this
    cases a <;> simp only [bOf, reduceCtorEq] at h4
    cases h4; cases hrel; exact this
  | flt =>
    simp only [colOf, Option.map_eq_some_iff] at h
    obtain ⟨l, hl, rfl⟩ := h
    obtain ⟨h1, h2⟩ := pick_ok n hl
    refine ⟨h1, fun j hj => ?_⟩
    obtain ⟨a, x, h3, h4, h5⟩ := h2 j hj
    obtain ⟨y, hy, hrel⟩ := hr.get _ _ h3
    refine ⟨y, hy, ?_⟩
    have := ColRel.cf (N := N) (w := w) .f64 l j
    rw [getD_of h5] at this
    unfold fOf at h4
    split at h4
    · cases h4; cases hrel; exact this
    · cases h4
  | _ => cases h
theorem colsOf_ok {N : Nat} {φ : Phi} {w : World} {rs n : Nat} {cells : List AV} {vs : List Value} (hr : AVsRel φ cells vs) (ks : List CK) : ∀ (c : Nat) {cols : List Col} (_ : colsOf rs n cells c ks = some cols),
    ∀ (i : Nat) (col : Col), cols[i]? = some col → col.len = n ∧ ∀ j, j < n → ∃ z, vs[j * rs + (c + i)]? = some z ∧ ColRel N w col j z := by
  induction ks with
  | nil => intro c cols h i col hi; cases h; simp at hi
  | cons k ks ih =>
    intro c cols h i col hi
    simp only [colsOf, Option.bind_eq_some_iff, Option.map_eq_some_iff] at h
    obtain ⟨x, hx, l, hl, rfl⟩ := h
    cases i with
    | zero => simp at hi; subst hi; exact colOf_ok hr hx
    | succ i =>
      simp at hi
      have := ih (c + 1) hl i col hi
      rwa [show c + 1 + i = c + (i + 1) by omega] at this
theorem normC_ok {N : Nat} {φ : Phi} {w : World} {ti : TI} {n : Nat} {vs : List Value} {c d : AC} (h : ACRel N φ w ti.size n vs c) (hd : normC ti n c = some d) : ACRel N φ w ti.size n vs d := by
  cases c with
  | cols m l => cases hd; exact h
  | cells l =>
    have hd : bif2 (plainK ti.kinds) ((colsOf ti.size n l 0 ti.kinds).map (.cols n)) (some (.cells l)) = some d := hd
    rw [bif2_eq] at hd
    split at hd
    · obtain ⟨cols, hc, rfl⟩ := Option.map_eq_some_iff.1 hd
      have := colsOf_ok (N := N) (w := w) (show AVsRel φ l vs from h) ti.kinds 0 hc
      exact ⟨rfl, fun i col hi => (this i col hi).1, fun j hj i col hi => by simpa using (this i col hi).2 j hj⟩
    · cases hd; exact h

theorem colApp_ok {N : Nat} {w : World} {a b c : Col} (h : Col.app a b = some c) : c.len = a.len + b.len ∧ (∀ j z, j < a.len → ColRel N w a j z → ColRel N w c j z) ∧ ∀ j z, ColRel N w b j z → ColRel N w c (a.len + j) z := by
  have gl : ∀ {α : Type} (l m : List α) (d : α) (j : Nat), j < l.length → (l ++ m).getD j d = l.getD j d := by
    intro α l m d j hj; simp only [List.getD_eq_getElem?_getD, List.getElem?_append_left hj]
  have gr : ∀ {α : Type} (l m : List α) (d : α) (j : Nat), (l ++ m).getD (l.length + j) d = m.getD j d := by
    intro α l m d j
    simp only [List.getD_eq_getElem?_getD]
    rw [List.getElem?_append_right (by omega), show l.length + j - l.length = j by omega]
  cases a <;> cases b <;> simp only [Col.app, reduceCtorEq] at h
  · split at h
    · rename_i k l k' l' e
      subst e; cases h
      refine ⟨by simp [Col.len], fun j z hj hz => ?_, fun j z hz => ?_⟩
      · cases hz; have := ColRel.ci (N := N) (w := w) k (l ++ l') j; rwa [gl _ _ _ _ hj] at this
      · cases hz; have := ColRel.ci (N := N) (w := w) k (l ++ l') (l.length + j); rwa [gr] at this
    · cases h
  · cases h
    rename_i l l'
    refine ⟨by simp [Col.len], fun j z hj hz => ?_, fun j z hz => ?_⟩
    · cases hz; have := ColRel.cs (N := N) (w := w) (l ++ l') j; rwa [gl _ _ _ _ hj] at this
    · cases hz; have := ColRel.cs (N := N) (w := w) (l ++ l') (l.length + j); rwa [gr] at this
  · cases h
    rename_i l l'
    refine ⟨by simp [Col.len], fun j z hj hz => ?_, fun j z hz => ?_⟩
    · cases hz; have := ColRel.cb (N := N) (w := w) (l ++ l') j; rwa [gl _ _ _ _ hj] at this
    · cases hz; have := ColRel.cb (N := N) (w := w) (l ++ l') (l.length + j); rwa [gr] at this
  · split at h
    · rename_i k l k' l' e
      subst e; cases h
      refine ⟨by simp [Col.len], fun j z hj hz => ?_, fun j z hz => ?_⟩
      · cases hz; have := ColRel.cf (N := N) (w := w) k (l ++ l') j; rwa [gl _ _ _ _ hj] at this
      · cases hz; have := ColRel.cf (N := N) (w := w) k (l ++ l') (l.length + j); rwa [gr] at this
    · cases h
theorem colsApp_ok (l : List Col) : ∀ {m r : List Col} (_ : colsApp l m = some r) (i : Nat) (c : Col), r[i]? = some c → ∃ a b, l[i]? = some a ∧ m[i]? = some b ∧ Col.app a b = some c := by
  induction l with
  | nil => intro m r h i c hi; cases m <;> simp [colsApp] at h; subst h; simp at hi
  | cons a l ih =>
    intro m r h i c hi
    cases m with
    | nil => simp [colsApp] at h
    | cons b m =>
      simp only [colsApp, Option.bind_eq_some_iff, Option.map_eq_some_iff] at h
      obtain ⟨x, hx, r', hr, rfl⟩ := h
      cases i with
      | zero => simp at hi; subst hi; exact ⟨a, b, rfl, rfl, hx⟩
      | succ i => simp at hi; simpa using ih hr i c hi
theorem joinC_ok {N : Nat} {φ : Phi} {w : World} {rs n m : Nat} {vs us : List Value} {c d e : AC} (hv : vs.length = n * rs) (hc : ACRel N φ w rs n vs c) (hd : ACRel N φ w rs m us d) (h : joinC c d = some e) :
    ACRel N φ w rs (n + m) (vs ++ us) e := by
  cases c <;> cases d <;> simp only [joinC, reduceCtorEq] at h
  · cases h; exact AVsRel.append hc hd
  · obtain ⟨cols, hcols, rfl⟩ := Option.map_eq_some_iff.1 h
    obtain ⟨rfl, l1, c1⟩ := hc
    obtain ⟨rfl, l2, c2⟩ := hd
    rename_i n l m r
    refine ⟨rfl, fun i col hi => ?_, fun j hj i col hi => ?_⟩
    · obtain ⟨a, b, h1, h2, h3⟩ := colsApp_ok _ hcols i col hi
      rw [(colApp_ok (N := N) (w := w) h3).1, l1 i a h1, l2 i b h2]
    · obtain ⟨a, b, h1, h2, h3⟩ := colsApp_ok _ hcols i col hi
      obtain ⟨_, k1, k2⟩ := colApp_ok (N := N) (w := w) h3
      by_cases hj1 : j < n
      · obtain ⟨z, hz, hrel⟩ := c1 j hj1 i a h1
        exact ⟨z, by rw [List.getElem?_append_left (List.getElem?_eq_some_iff.1 hz).1]; exact hz, k1 j z (by rw [l1 i a h1]; exact hj1) hrel⟩
      · obtain ⟨z, hz, hrel⟩ := c2 (j - n) (by omega) i b h2
        have e : j * rs + i = vs.length + ((j - n) * rs + i) := by
          rw [hv, show j = n + (j - n) by omega, Nat.add_mul]
          simp only [show n + (j - n) - n = j - n by omega]
          omega
        refine ⟨z, ?_, ?_⟩
        · rw [e, List.getElem?_append_right (by omega), show vs.length + ((j - n) * rs + i) - vs.length = (j - n) * rs + i by omega]
          exact hz
        · have := k2 (j - n) z hrel
          rwa [l1 i a h1, show n + (j - n) = j by omega] at this
end Go.Eng
