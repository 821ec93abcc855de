/- An evaluator of the code of the model, and lemmas of its proof of soundness: what it tells of a call, the call does; no condition but those that each lemma names. -/
import Derived.Test.YtiokhipgpfeoeaaEng6c
import Derived.Deep.Upon
set_option linter.all false
set_option linter.deprecated false
set_option autoImplicit false
namespace Go.Eng
open Go Go.RowKit

/-! ## append -/
theorem Rep.lt {N : Nat} {φ : Phi} {M : Mem} {w : World} (h : Rep N φ M w) (id : Nat) (q : Pl) (ho : isOwn (M.get id)) (hq : φ id = some (some q)) : q.b < w.heap.size := by
  have := h.objs id
  cases hg : M.get id with
  | dead => rw [hg] at ho; exact ho.elim
  | ro => rw [hg] at ho; exact ho.elim
  | own e rs cells => rw [hg] at this; obtain ⟨p', hp', _, _, h2, _⟩ := this; rw [hq] at hp'; cases hp'; exact h2.lt
  | vec e n cols => rw [hg] at this; obtain ⟨_, p', hp', _, _, h2, _⟩ := this; rw [hq] at hp'; cases hp'; exact h2.lt
/-- An object is given up. -/
theorem Rep.kill {N : Nat} {φ : Phi} {M : Mem} {w : World} (h : Rep N φ M w) (id : Nat) : Rep N φ (M.set id .dead) w ∧ Ext φ M w φ (M.set id .dead) w := by
  have own : ∀ j, isOwn ((M.set id .dead).get j) → isOwn (M.get j) := by
    intro j ho
    simp only [Mem.get_set] at ho
    split at ho
    · exact ho.elim
    · exact ho
  refine ⟨⟨fun j => ?_, fun a b p q h1 h2 h3 h4 e => h.sep a b p q (own a h1) (own b h2) h3 h4 e, fun a p h1 h2 => h.high a p (own a h1) h2, fun j hj => ?_, h.size⟩,
    ⟨.refl _, fun _ _ => rfl, Nat.le_refl _, rfl, rfl, rfl, rfl, Nat.le_refl _, fun _ _ _ => rfl, fun j p h1 h2 _ => ⟨j, p, own j h1, h2, rfl, fun h => h⟩⟩⟩
  · simp only [Mem.get_set]
    split
    · trivial
    · exact h.objs j
  · obtain ⟨h1, h2⟩ := h.fresh j hj
    simp only [Mem.get_set]
    split
    · exact ⟨rfl, h2⟩
    · exact ⟨h1, h2⟩

/-- An object of the call's own is written anew, under another number. -/
theorem Rep.regrow {N : Nat} {φ : Phi} {M : Mem} {w w' : World} (h : Rep N φ M w) {id : Nat} {p : Pl} (ho : isOwn (M.get id)) (hp : φ id = some (some p)) (hl : M.lock ≤ id) (o : AObj)
    (hs : w'.heap.size = w.heap.size) (hos : w'.os = w.os) (htp : w'.tape = w.tape) (hout : w'.output = w.output) (hk : ∀ b, b < w.heap.size → b ≠ p.b → w'.heap[b]? = w.heap[b]?)
    (hob : ObjRel N (updP φ M.next (some p)) w' M.next o) :
    Rep N (updP φ M.next (some p)) ((M.set id .dead).new o) w' ∧ Ext φ M w (updP φ M.next (some p)) ((M.set id .dead).new o) w' := by
  have hf := (h.fresh M.next (Nat.le_refl _)).2
  have hle := updP_le (some p) hf
  have own : ∀ j q, isOwn (((M.set id .dead).new o).get j) → updP φ M.next (some p) j = some (some q) → (j = M.next ∧ q = p) ∨ (j ≠ M.next ∧ j ≠ id ∧ isOwn (M.get j) ∧ φ j = some (some q)) := by
    intro j q ho hq
    simp only [Mem.get_new, Mem.next_set, Mem.get_set] at ho
    by_cases e : j = M.next
    · subst e; left; simpa using hq.symm
    · right
      rw [if_neg e] at ho
      by_cases e2 : j = id
      · rw [if_pos e2] at ho; exact ho.elim
      · rw [if_neg e2] at ho
        exact ⟨e, e2, ho, by simpa [updP, e] using hq⟩
  have hpb := h.lt id p ho hp
  have hN := h.high id p ho hp
  refine ⟨⟨fun j => ?_, fun j j' q q' h1 h2 h3 h4 e => ?_, fun j q h1 h2 => ?_, fun j hj => ?_, by rw [hs]; exact h.size⟩,
    ⟨hle, fun _ h => updP_lt _ h, by simp, rfl, hos, htp, hout, by rw [hs]; exact Nat.le_refl _, fun b hb hno => hk b hb fun e => hno id p hl ho hp e.symm, fun j q h1 h2 h3 => ?_⟩⟩
  · simp only [Mem.get_new, Mem.next_set, Mem.get_set]
    split
    · rename_i e; subst e; exact hob
    · split
      · trivial
      · rename_i hne
        refine (h.objs j).step hle (fun b hb => hk b (Nat.lt_of_lt_of_le hb h.size) (by omega)) fun ho1 q hq => hk _ (h.lt j q ho1 hq) fun e => hne (h.sep j id q p ho1 ho hq hp e)
  · rcases own j q h1 h3 with ⟨rfl, rfl⟩ | ⟨a1, a2, a3, a4⟩ <;> rcases own j' q' h2 h4 with ⟨rfl, rfl⟩ | ⟨b1, b2, b3, b4⟩
    · rfl
    · exact (b2 (h.sep j' id q' q b3 ho b4 hp e.symm)).elim
    · exact (a2 (h.sep j id q q' a3 ho a4 hp e)).elim
    · exact h.sep j j' q q' a3 b3 a4 b4 e
  · rcases own j q h1 h2 with ⟨rfl, rfl⟩ | ⟨a1, a2, a3, a4⟩
    · exact hN
    · exact h.high j q a3 a4
  · simp only [Mem.next_new, Mem.next_set] at hj
    have hne : j ≠ M.next := by omega
    have := h.fresh j (by omega)
    simp only [Mem.get_new, Mem.next_set, if_neg hne, Mem.get_set]
    refine ⟨by split; rfl; exact this.1, by simp [updP, hne, this.2]⟩
  · rcases own j q h1 h2 with ⟨rfl, rfl⟩ | ⟨a1, a2, a3, a4⟩
    · exact ⟨id, q, ho, hp, rfl, fun _ => hl⟩
    · exact ⟨j, q, a3, a4, rfl, fun h => h⟩

/-- What stands in n rows. -/
def ACRel (N : Nat) (φ : Phi) (w : World) (rs n : Nat) (vs : List Value) : AC → Prop
  | .cells l => AVsRel φ l vs
  | .cols m cols => m = n ∧ (∀ (c : Nat) (col : Col), cols[c]? = some col → col.len = n) ∧ ∀ j, j < n → ∀ c col, cols[c]? = some col → ∃ z, vs[j * rs + c]? = some z ∧ ColRel N w col j z
theorem ColRel.one {N : Nat} {w : World} {col : Col} {i : Nat} {z : Value} (h : ColRel N w col i z) : z.oneCell' = true := by cases h <;> rfl
theorem getD_part {α : Type} (l : List α) (r n j : Nat) (d : α) (hj : j < n) : ((l.drop r).take n).getD j d = l.getD (r + j) d := by
  simp only [List.getD_eq_getElem?_getD, List.getElem?_take, if_pos hj, List.getElem?_drop]
theorem ColRel.part {N : Nat} {w : World} {col : Col} {r n j : Nat} {z : Value} (h : ColRel N w col (r + j) z) (hj : j < n) : ColRel N w (col.part r n) j z := by
  cases h with
  | ci k l => rw [← getD_part l r n j 0 hj]; exact .ci k _ j
  | cs l => rw [← getD_part l r n j _ hj]; exact .cs _ j
  | cb l => rw [← getD_part l r n j _ hj]; exact .cb _ j
  | cf k l => rw [← getD_part l r n j 0 hj]; exact .cf k _ j
  | cl hh sub i A zf hlen hle hA h0 hb hz hc =>
    have e := getD_part hh r n j (true, 0, 0) hj
    have := ColRel.cl (N := N) (w := w) ((hh.drop r).take n) (fun i => sub (r + i)) j A zf (by rw [e]; exact hlen) (by rw [e]; exact hle) (by rw [e]; exact hA) (by rw [e]; exact h0) (by rw [e]; exact hb) (by rw [e]; exact hz) (by rw [e]; exact hc)
    rw [e] at this
    exact this
theorem Col.part_len (col : Col) (r n : Nat) (h : r + n ≤ col.len) : (col.part r n).len = n := by
  cases col <;> simp only [Col.part, Col.len, List.length_take, List.length_drop] at h ⊢ <;> omega

theorem div_mod_lt {i n rs : Nat} (h : i < n * rs) : i / rs < n ∧ i % rs < rs ∧ i / rs * rs + i % rs = i := by
  have h0 : 0 < rs := by
    rcases Nat.eq_zero_or_pos rs with e | e
    · subst e; simp at h
    · exact e
  exact ⟨Nat.div_lt_of_lt_mul (by rwa [Nat.mul_comm]), Nat.mod_lt _ h0, by have := Nat.div_add_mod i rs; rw [Nat.mul_comm]; exact this⟩

/-- Rows by their columns. -/
theorem cols_vals {N : Nat} {w : World} {p : Pl} {r n m : Nat} {cols : List Col} (hps : 0 < n → p.spot = none) (hrs : p.rs = cols.length) (hm : r + n ≤ m) (hlen : ∀ (c : Nat) (col : Col), cols[c]? = some col → col.len = m)
    (h : ∀ j, j < m → ∀ c col, cols[c]? = some col → ∃ z, w.cell? (p.at j c) = some z ∧ ColRel N w col j z) (φ : Phi) :
    ∃ vs : List Value, vs.length = n * p.rs ∧ ACRel N φ w p.rs n vs (.cols n (cols.map (Col.part r n))) ∧ (∀ u ∈ vs, u.oneCell' = true) ∧ ∀ j u, vs[j]? = some u → w.cell? ((p.at r 0).add j) = some u := by
  have key : ∀ i, i < n * p.rs → ∃ z, w.cell? ((p.at r 0).add i) = some z ∧ z.oneCell' = true ∧ ∀ col, cols[i % p.rs]? = some col → ColRel N w col (r + i / p.rs) z := by
    intro i hi
    obtain ⟨h1, h2, h3⟩ := div_mod_lt hi
    obtain ⟨col, hcol⟩ : ∃ col, cols[i % p.rs]? = some col := ⟨_, List.getElem?_eq_getElem (by rw [← hrs]; exact h2)⟩
    obtain ⟨z, hz, hr⟩ := h (r + i / p.rs) (by omega) _ col hcol
    refine ⟨z, ?_, hr.one, fun col' hc' => by rw [hcol] at hc'; cases hc'; exact hr⟩
    have hps := hps (Nat.lt_of_le_of_lt (Nat.zero_le _) h1)
    rw [at_add p hps, Nat.zero_add, ← hz, at_eq p hps, at_eq p hps, Nat.add_mul]
    congr 2
    omega
  let vs := (List.range (n * p.rs)).map fun i => (w.cell? ((p.at r 0).add i)).getD undef
  have hvl : vs.length = n * p.rs := by simp [vs]
  have hvg : ∀ i, i < n * p.rs → vs[i]? = some ((w.cell? ((p.at r 0).add i)).getD undef) := by
    intro i hi
    simp only [vs, List.getElem?_map, List.getElem?_range hi, Option.map_some]
  refine ⟨vs, hvl, ⟨rfl, ?_, ?_⟩, ?_, ?_⟩
  · intro c col hc
    simp only [List.getElem?_map, Option.map_eq_some_iff] at hc
    obtain ⟨col0, hc0, rfl⟩ := hc
    exact Col.part_len _ _ _ (by rw [hlen c col0 hc0]; exact hm)
  · intro j hj c col hc
    simp only [List.getElem?_map, Option.map_eq_some_iff] at hc
    obtain ⟨col0, hc0, rfl⟩ := hc
    have hclt : c < p.rs := by rw [hrs]; exact (List.getElem?_eq_some_iff.1 hc0).1
    have hlt : j * p.rs + c < n * p.rs := by
      have : (j + 1) * p.rs ≤ n * p.rs := Nat.mul_le_mul_right _ hj
      rw [Nat.succ_mul] at this
      omega
    obtain ⟨z, h1, _, h3⟩ := key _ hlt
    refine ⟨z, by rw [hvg _ hlt, h1]; rfl, ?_⟩
    have e1 : (j * p.rs + c) % p.rs = c := by rw [Nat.mul_comm, Nat.mul_add_mod]; exact Nat.mod_eq_of_lt hclt
    have e2 : (j * p.rs + c) / p.rs = j := by rw [Nat.mul_comm, Nat.mul_add_div (by omega), Nat.div_eq_of_lt hclt]; omega
    rw [e1, e2] at h3
    exact (h3 col0 hc0).part hj
  · intro u hu
    obtain ⟨i, hi, rfl⟩ := List.mem_map.1 hu
    obtain ⟨z, h1, h2, _⟩ := key i (List.mem_range.1 hi)
    rw [h1]; exact h2
  · intro j u hu
    have hj : j < n * p.rs := by rw [← hvl]; exact (List.getElem?_eq_some_iff.1 hu).1
    obtain ⟨z, h1, _⟩ := key j hj
    rw [hvg j hj, h1] at hu
    cases hu
    exact h1

theorem acOf_ok {N : Nat} {φ : Phi} {M : Mem} {w : World} (hr : Rep N φ M w) {id r n rs : Nat} {x : Option Pl} (hx : φ id = some x) (hrs : ∀ p, φ id = some (some p) → p.rs = rs) (h0 : x = none → n = 0)
    {f : AC → T (AV × Mem)} {Q : AV × Mem → Prop} {Qp : AV → Mem → Prop} (h : (acOf (M.get id) r n f).holds Q Qp) :
    ∃ c vs, (f c).holds Q Qp ∧ vs.length = n * rs ∧ ACRel N φ w rs n vs c ∧ (∀ u ∈ vs, u.oneCell' = true) ∧ ∀ p, x = some p → ∀ j u, vs[j]? = some u → w.cell? ((p.at r 0).add j) = some u := by
  have ho := hr.objs id
  unfold acOf at h
  cases hg : M.get id with
  | dead => rw [hg] at h; exact h.elim
  | ro nil m cols =>
    rw [hg] at h ho
    obtain ⟨hln, y, hy, _, hn0, hc⟩ := ho
    rw [hx] at hy; cases hy
    obtain ⟨hb, h⟩ := br_ok (show (T.br (Nat.ble (r + n) m) (f (.cols n (cols.map (Col.part r n)))) .fail).holds Q Qp from h)
    have hb : r + n ≤ m := Nat.le_of_ble_eq_true hb
    cases x with
    | none =>
      have := h0 rfl
      subst this
      refine ⟨_, [], h, by simp, ⟨rfl, fun c col hc => ?_, fun j hj => absurd hj (Nat.not_lt_zero _)⟩, by simp, fun p hp => by cases hp⟩
      simp only [List.getElem?_map, Option.map_eq_some_iff] at hc
      obtain ⟨col0, hc0, rfl⟩ := hc
      exact Col.part_len _ _ _ (by rw [hln c col0 hc0]; exact hb)
    | some p =>
      obtain ⟨h1, h2, h3⟩ := hc p rfl
      obtain ⟨vs, a, b, c, d⟩ := cols_vals (fun hn => (h2 (by omega)).2) h1 hb hln h3 φ
      rw [hrs p hx] at a b
      exact ⟨_, vs, h, a, b, c, fun q hq => by cases hq; exact d⟩
  | vec el m cols =>
    rw [hg] at h ho
    obtain ⟨hln, p, hp, ⟨_, hps⟩, h1, _, _, h3⟩ := ho
    rw [hx] at hp; cases hp
    obtain ⟨hb, h⟩ := br_ok (show (T.br (Nat.ble (r + n) m) (f (.cols n (cols.map (Col.part r n)))) .fail).holds Q Qp from h)
    have hb : r + n ≤ m := Nat.le_of_ble_eq_true hb
    obtain ⟨vs, a, b, c, d⟩ := cols_vals (fun _ => hps) h1 hb hln h3 φ
    rw [hrs p hx] at a b
    exact ⟨_, vs, h, a, b, c, fun q hq => by cases hq; exact d⟩
  | own el rs' cells =>
    rw [hg] at h ho
    obtain ⟨p, hp, ⟨h1, hps⟩, h2, _, _, h4⟩ := ho
    rw [hx] at hp; cases hp
    have := hrs p hx
    obtain ⟨hb, h⟩ := br_ok (show (T.br (Nat.ble ((r + n) * rs') cells.length && allLeaf ((cells.drop (r * rs')).take (n * rs'))) (f (.cells ((cells.drop (r * rs')).take (n * rs')))) .fail).holds Q Qp from h)
    obtain ⟨hb, hlf⟩ := Bool.and_eq_true_iff.1 hb
    have hb : (r + n) * rs' ≤ cells.length := Nat.le_of_ble_eq_true hb
    have hrr : rs' = rs := h2.symm.trans this
    subst hrr
    rw [Nat.add_mul] at hb
    have key : ∀ (i : Nat) (a : AV), ((cells.drop (r * rs')).take (n * rs'))[i]? = some a → ∃ z, w.cell? ((p.at r 0).add i) = some z ∧ AVRel φ a z ∧ z.oneCell' = true := by
      intro i a ha
      have hi := (List.getElem?_eq_some_iff.1 ha).1
      have hm : a ∈ (cells.drop (r * rs')).take (n * rs') := List.mem_of_getElem? ha
      rw [List.length_take] at hi
      rw [List.getElem?_take, if_pos (by omega), List.getElem?_drop] at ha
      obtain ⟨z, hz, hrel⟩ := h4 _ _ ha
      refine ⟨z, ?_, hrel, leafA_one (allLeaf_ok hlf _ hm) hrel⟩
      rw [at_add p hps, at_eq p hps, h1, h2]
      simpa using hz
    have hlen : ((cells.drop (r * rs')).take (n * rs')).length = n * rs' := by
      rw [List.length_take, List.length_drop]; omega
    refine ⟨_, (List.range (n * rs')).map fun i => (w.cell? ((p.at r 0).add i)).getD undef, h, by simp, ?_, ?_, ?_⟩
    · show AVsRel φ _ _
      refine AVsRel.of_get (by rw [hlen]; simp) fun i a y ha hy => ?_
      obtain ⟨z, h5, h6, _⟩ := key i a ha
      have hi : i < n * rs' := by rw [← hlen]; exact (List.getElem?_eq_some_iff.1 ha).1
      simp only [List.getElem?_map, List.getElem?_range hi, Option.map_some, h5, Option.getD_some, Option.some.injEq] at hy
      subst hy
      exact h6
    · intro u hu
      obtain ⟨i, hi, rfl⟩ := List.mem_map.1 hu
      have hi := List.mem_range.1 hi
      obtain ⟨z, h5, _, h7⟩ := key i _ (List.getElem?_eq_getElem (by rw [hlen]; exact hi))
      rw [h5]; exact h7
    · intro q hq j u hu
      cases hq
      have hj : j < n * rs' := by simpa using (List.getElem?_eq_some_iff.1 hu).1
      obtain ⟨z, h5, _⟩ := key j _ (List.getElem?_eq_getElem (by rw [hlen]; exact hj))
      simp only [List.getElem?_map, List.getElem?_range hj, Option.map_some, h5, Option.getD_some, Option.some.injEq] at hu
      subst hu
      exact h5
end Go.Eng
