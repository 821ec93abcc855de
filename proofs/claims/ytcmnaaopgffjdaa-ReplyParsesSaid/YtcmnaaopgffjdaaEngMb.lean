/- An evaluator of the code of the model, and lemmas of its proof of soundness: what it tells of a call, the call does; no condition but those that each lemma names. -/
import Derived.Test.YtcmnaaopgffjdaaEngMa
import Derived.Deep.Upon
import Derived.Lib.AppendZerosOnto
import Derived.Laws.StructEq
import Derived.Laws.Cover3
import Derived.Laws.IdiomStrings
import Derived.Lib.ConvBytes
import Derived.MapKept
import Derived.Carry
import Derived.LoopN
import Derived.Tactics
import Derived.Orders
set_option linter.all false
set_option linter.deprecated false
set_option autoImplicit false
namespace Go.Eng
open Go Go.RowKit

/-! ## append -/
theorem Rep.lt {N : NB} {φ : Phi} {M : Mem} {w : World} (h : Rep N φ M w) (id : Nat) (q : Pl) (ho : isOwn (M.get id)) (hq : φ id = some (some q)) : q.b < w.heap.size := by
  have := h.objs id
  cases hg : M.get id with
  | dead => rw [hg] at ho; exact ho.elim
  | ro => rw [hg] at ho; exact ho.elim
  | own e rs cells => rw [hg] at this; obtain ⟨p', hp', _, _, h2, _⟩ := this; rw [hq] at hp'; cases hp'; exact h2.lt
  | vec e n cols => rw [hg] at this; obtain ⟨_, p', hp', _, _, h2, _⟩ := this; rw [hq] at hp'; cases hp'; exact h2.lt
  | map es cl => rw [hg] at this; obtain ⟨p', hp', _, h2⟩ := this; rw [hq] at hp'; cases hp'; exact (Array.getElem?_eq_some_iff.1 h2).1
/-- An object is given up. -/
theorem Rep.kill {N : NB} {φ : Phi} {M : Mem} {w : World} (h : Rep N φ M w) (id : Nat) : Rep N φ (M.set id .dead) w ∧ Ext φ M w φ (M.set id .dead) w := by
  have own : ∀ j, isOwn ((M.set id .dead).get j) → isOwn (M.get j) := by
    intro j ho
    simp only [Mem.get_set] at ho
    split at ho
    · exact ho.elim
    · exact ho
  refine ⟨⟨fun j => ?_, fun a b p q h1 h2 h3 h4 e => h.sep a b p q (own a h1) (own b h2) h3 h4 e, fun a p h1 h2 => h.high a p (own a h1) h2, fun j hj => ?_, h.size⟩,
    ⟨.refl _, fun _ _ => rfl, Nat.le_refl _, rfl, rfl, rfl, rfl, Nat.le_refl _, fun _ _ _ => rfl, fun j p h1 h2 _ => ⟨j, p, own j h1, h2, rfl, fun h => h⟩⟩⟩
  · simp only [Mem.get_set]
    split
    · exact h.glob
    · exact h.objs j
  · obtain ⟨h1, h2⟩ := h.fresh j hj
    simp only [Mem.get_set]
    split
    · exact ⟨rfl, h2⟩
    · exact ⟨h1, h2⟩

/-- An object of the call's own is written anew, under another number. -/
theorem Rep.regrow {N : NB} {φ : Phi} {M : Mem} {w w' : World} (h : Rep N φ M w) {id : Nat} {p : Pl} (ho : isOwn (M.get id)) (hp : φ id = some (some p)) (hl : M.lock ≤ id) (o : AObj)
    (hs : w'.heap.size = w.heap.size) (hos : w'.os = w.os) (htp : w'.tape = w.tape) (hout : w'.output = w.output) (hk : ∀ b, b < w.heap.size → b ≠ p.b → w'.heap[b]? = w.heap[b]?)
    (hob : ObjRel N (updP φ M.next (some p)) w' M.next o) :
    Rep N (updP φ M.next (some p)) ((M.set id .dead).new o) w' ∧ Ext φ M w (updP φ M.next (some p)) ((M.set id .dead).new o) w' := by
  have hf := (h.fresh M.next (Nat.le_refl _)).2
  have hle := updP_le (some p) hf
  have own : ∀ j q, isOwn (((M.set id .dead).new o).get j) → updP φ M.next (some p) j = some (some q) → (j = M.next ∧ q = p) ∨ (j ≠ M.next ∧ j ≠ id ∧ isOwn (M.get j) ∧ φ j = some (some q)) := by
    intro j q ho hq
    simp only [Mem.get_new, Mem.next_set, Mem.get_set] at ho
    by_cases e : j = M.next
    · subst e; left; simpa using hq.symm
    · right
      rw [if_neg e] at ho
      by_cases e2 : j = id
      · rw [if_pos e2] at ho; exact ho.elim
      · rw [if_neg e2] at ho
        exact ⟨e, e2, ho, by simpa [updP, e] using hq⟩
  have hpb := h.lt id p ho hp
  have hN := h.high id p ho hp
  refine ⟨⟨fun j => ?_, fun j j' q q' h1 h2 h3 h4 e => ?_, fun j q h1 h2 => ?_, fun j hj => ?_, by rw [hs]; exact h.size⟩,
    ⟨hle, fun _ h => updP_lt _ h, by simp, rfl, hos, htp, hout, by rw [hs]; exact Nat.le_refl _, fun b hb hno => hk b hb fun e => hno id p hl ho hp e.symm, fun j q h1 h2 h3 => ?_⟩⟩
  · simp only [Mem.get_new, Mem.next_set, Mem.get_set]
    split
    · rename_i e; subst e; exact hob
    · split
      · exact h.glob.same fun b hb => hk b (Nat.lt_of_lt_of_le hb h.size) (by omega)
      · rename_i hne
        refine (h.objs j).step hle (fun b hb => hk b (Nat.lt_of_lt_of_le hb h.size) (by omega)) fun ho1 q hq => hk _ (h.lt j q ho1 hq) fun e => hne (h.sep j id q p ho1 ho hq hp e)
  · rcases own j q h1 h3 with ⟨rfl, rfl⟩ | ⟨a1, a2, a3, a4⟩ <;> rcases own j' q' h2 h4 with ⟨rfl, rfl⟩ | ⟨b1, b2, b3, b4⟩
    · rfl
    · exact (b2 (h.sep j' id q' q b3 ho b4 hp e.symm)).elim
    · exact (a2 (h.sep j id q q' a3 ho a4 hp e)).elim
    · exact h.sep j j' q q' a3 b3 a4 b4 e
  · rcases own j q h1 h2 with ⟨rfl, rfl⟩ | ⟨a1, a2, a3, a4⟩
    · exact hN
    · exact h.high j q a3 a4
  · simp only [Mem.next_new, Mem.next_set] at hj
    have hne : j ≠ M.next := by omega
    have := h.fresh j (by omega)
    simp only [Mem.get_new, Mem.next_set, if_neg hne, Mem.get_set]
    refine ⟨by split; rfl; exact this.1, by simp [updP, hne, this.2]⟩
  · rcases own j q h1 h2 with ⟨rfl, rfl⟩ | ⟨a1, a2, a3, a4⟩
    · exact ⟨id, q, ho, hp, rfl, fun _ => hl⟩
    · exact ⟨j, q, a3, a4, rfl, fun h => h⟩

/-- What stands in n rows. -/
def ACRel (N : NB) (φ : Phi) (w : World) (rs n : Nat) (vs : List Value) : AC → Prop
  | .cells l => AVsRel φ l vs
  | .cols m cols => m = n ∧ (∀ (c : Nat) (col : Col), cols[c]? = some col → col.len = n) ∧ ∀ j, j < n → ∀ c col, cols[c]? = some col → ∃ z, vs[j * rs + c]? = some z ∧ ColRel N w col j z
theorem ColRel.one {N : NB} {w : World} {col : Col} {i : Nat} {z : Value} (h : ColRel N w col i z) : z.oneCell' = true := by cases h <;> rfl
theorem getD_part {α : Type} (l : List α) (r n j : Nat) (d : α) (hj : j < n) : ((l.drop r).take n).getD j d = l.getD (r + j) d := by
  simp only [List.getD_eq_getElem?_getD, List.getElem?_take, if_pos hj, List.getElem?_drop]
theorem ColRel.part {N : NB} {w : World} {col : Col} {r n j : Nat} {z : Value} (h : ColRel N w col (r + j) z) (hj : j < n) : ColRel N w (col.part r n) j z := by
  cases h with
  | ci k l => rw [← getD_part l r n j 0 hj]; exact .ci k _ j
  | cs l => rw [← getD_part l r n j _ hj]; exact .cs _ j
  | cb l => rw [← getD_part l r n j _ hj]; exact .cb _ j
  | cf k l => rw [← getD_part l r n j 0 hj]; exact .cf k _ j
  | cl hh sub i A zf hlen hle hA h0 hb hz hc =>
    have e := getD_part hh r n j (true, 0, 0) hj
    have := ColRel.cl (N := N) (w := w) ((hh.drop r).take n) (fun i => sub (r + i)) j A zf (by rw [e]; exact hlen) (by rw [e]; exact hle) (by rw [e]; exact hA) (by rw [e]; exact h0) (by rw [e]; exact hb) (by rw [e]; exact hz) (by rw [e]; exact hc)
    rw [e] at this
    exact this
theorem Col.part_len (col : Col) (r n : Nat) (h : r + n ≤ col.len) : (col.part r n).len = n := by
  cases col <;> simp only [Col.part, Col.len, List.length_take, List.length_drop] at h ⊢ <;> omega

theorem div_mod_lt {i n rs : Nat} (h : i < n * rs) : i / rs < n ∧ i % rs < rs ∧ i / rs * rs + i % rs = i := by
  have h0 : 0 < rs := by
    rcases Nat.eq_zero_or_pos rs with e | e
    · subst e; simp at h
    · exact e
  exact ⟨Nat.div_lt_of_lt_mul (by rwa [Nat.mul_comm]), Nat.mod_lt _ h0, by have := Nat.div_add_mod i rs; rw [Nat.mul_comm]; exact this⟩

/-- Rows by their columns. -/
theorem cols_vals {N : NB} {w : World} {p : Pl} {r n m : Nat} {cols : List Col} (hps : 0 < n → p.spot = none) (hrs : p.rs = cols.length) (hm : r + n ≤ m) (hlen : ∀ (c : Nat) (col : Col), cols[c]? = some col → col.len = m)
    (h : ∀ j, j < m → ∀ c col, cols[c]? = some col → ∃ z, w.cell? (p.at j c) = some z ∧ ColRel N w col j z) (φ : Phi) :
    ∃ vs : List Value, vs.length = n * p.rs ∧ ACRel N φ w p.rs n vs (.cols n (cols.map (Col.part r n))) ∧ (∀ u ∈ vs, u.oneCell' = true) ∧ ∀ j u, vs[j]? = some u → w.cell? ((p.at r 0).add j) = some u := by
  have key : ∀ i, i < n * p.rs → ∃ z, w.cell? ((p.at r 0).add i) = some z ∧ z.oneCell' = true ∧ ∀ col, cols[i % p.rs]? = some col → ColRel N w col (r + i / p.rs) z := by
    intro i hi
    obtain ⟨h1, h2, h3⟩ := div_mod_lt hi
    obtain ⟨col, hcol⟩ : ∃ col, cols[i % p.rs]? = some col := ⟨_, List.getElem?_eq_getElem (by rw [← hrs]; exact h2)⟩
    obtain ⟨z, hz, hr⟩ := h (r + i / p.rs) (by omega) _ col hcol
    refine ⟨z, ?_, hr.one, fun col' hc' => by rw [hcol] at hc'; cases hc'; exact hr⟩
    have hps := hps (Nat.lt_of_le_of_lt (Nat.zero_le _) h1)
    rw [at_add p hps, Nat.zero_add, ← hz, at_eq p hps, at_eq p hps, Nat.add_mul]
    congr 2
    omega
  let vs := (List.range (n * p.rs)).map fun i => (w.cell? ((p.at r 0).add i)).getD undef
  have hvl : vs.length = n * p.rs := by simp [vs]
  have hvg : ∀ i, i < n * p.rs → vs[i]? = some ((w.cell? ((p.at r 0).add i)).getD undef) := by
    intro i hi
    simp only [vs, List.getElem?_map, List.getElem?_range hi, Option.map_some]
  refine ⟨vs, hvl, ⟨rfl, ?_, ?_⟩, ?_, ?_⟩
  · intro c col hc
    simp only [List.getElem?_map, Option.map_eq_some_iff] at hc
    obtain ⟨col0, hc0, rfl⟩ := hc
    exact Col.part_len _ _ _ (by rw [hlen c col0 hc0]; exact hm)
  · intro j hj c col hc
    simp only [List.getElem?_map, Option.map_eq_some_iff] at hc
    obtain ⟨col0, hc0, rfl⟩ := hc
    have hclt : c < p.rs := by rw [hrs]; exact (List.getElem?_eq_some_iff.1 hc0).1
    have hlt : j * p.rs + c < n * p.rs := by
      have : (j + 1) * p.rs ≤ n * p.rs := Nat.mul_le_mul_right _ hj
      rw [Nat.succ_mul] at this
      omega
    obtain ⟨z, h1, _, h3⟩ := key _ hlt
    refine ⟨z, by rw [hvg _ hlt, h1]; rfl, ?_⟩
    have e1 : (j * p.rs + c) % p.rs = c := by rw [Nat.mul_comm, Nat.mul_add_mod]; exact Nat.mod_eq_of_lt hclt
    have e2 : (j * p.rs + c) / p.rs = j := by rw [Nat.mul_comm, Nat.mul_add_div (by omega), Nat.div_eq_of_lt hclt]; omega
    rw [e1, e2] at h3
    exact (h3 col0 hc0).part hj
  · intro u hu
    obtain ⟨i, hi, rfl⟩ := List.mem_map.1 hu
    obtain ⟨z, h1, h2, _⟩ := key i (List.mem_range.1 hi)
    rw [h1]; exact h2
  · intro j u hu
    have hj : j < n * p.rs := by rw [← hvl]; exact (List.getElem?_eq_some_iff.1 hu).1
    obtain ⟨z, h1, _⟩ := key j hj
    rw [hvg j hj, h1] at hu
    cases hu
    exact h1

theorem acOf_ok {N : NB} {φ : Phi} {M : Mem} {w : World} (hr : Rep N φ M w) {id r n rs : Nat} {x : Option Pl} (hx : φ id = some x) (hrs : ∀ p, φ id = some (some p) → p.rs = rs) (h0 : x = none → n = 0)
    {f : AC → T (AV × Mem)} {Q : AV × Mem → Prop} {Qp : AV → Mem → Prop} (h : (acOf (M.get id) r n f).holds Q Qp) :
    ∃ c vs, (f c).holds Q Qp ∧ vs.length = n * rs ∧ ACRel N φ w rs n vs c ∧ (∀ u ∈ vs, u.oneCell' = true) ∧ ∀ p, x = some p → ∀ j u, vs[j]? = some u → w.cell? ((p.at r 0).add j) = some u := by
  have ho := hr.objs id
  unfold acOf at h
  cases hg : M.get id with
  | dead => rw [hg] at h; exact h.elim
  | map es cl => rw [hg] at h; exact h.elim
  | ro nil m cols =>
    rw [hg] at h ho
    obtain ⟨hln, y, hy, _, hn0, hc⟩ := ho
    rw [hx] at hy; cases hy
    obtain ⟨hb, h⟩ := br_ok (show (T.br (Nat.ble (r + n) m) (f (.cols n (cols.map (Col.part r n)))) .fail).holds Q Qp from h)
    have hb : r + n ≤ m := Nat.le_of_ble_eq_true hb
    cases x with
    | none =>
      have := h0 rfl
      subst this
      refine ⟨_, [], h, by simp, ⟨rfl, fun c col hc => ?_, fun j hj => absurd hj (Nat.not_lt_zero _)⟩, by simp, fun p hp => by cases hp⟩
      simp only [List.getElem?_map, Option.map_eq_some_iff] at hc
      obtain ⟨col0, hc0, rfl⟩ := hc
      exact Col.part_len _ _ _ (by rw [hln c col0 hc0]; exact hb)
    | some p =>
      obtain ⟨h1, h2, h3⟩ := hc p rfl
      obtain ⟨vs, a, b, c, d⟩ := cols_vals (fun hn => (h2 (by omega)).2) h1 hb hln h3 φ
      rw [hrs p hx] at a b
      exact ⟨_, vs, h, a, b, c, fun q hq => by cases hq; exact d⟩
  | vec el m cols =>
    rw [hg] at h ho
    obtain ⟨hln, p, hp, ⟨_, hps⟩, h1, _, _, h3⟩ := ho
    rw [hx] at hp; cases hp
    obtain ⟨hb, h⟩ := br_ok (show (T.br (Nat.ble (r + n) m) (f (.cols n (cols.map (Col.part r n)))) .fail).holds Q Qp from h)
    have hb : r + n ≤ m := Nat.le_of_ble_eq_true hb
    obtain ⟨vs, a, b, c, d⟩ := cols_vals (fun _ => hps) h1 hb hln h3 φ
    rw [hrs p hx] at a b
    exact ⟨_, vs, h, a, b, c, fun q hq => by cases hq; exact d⟩
  | own el rs' cells =>
    rw [hg] at h ho
    obtain ⟨p, hp, ⟨h1, hps⟩, h2, _, _, h4⟩ := ho
    rw [hx] at hp; cases hp
    have := hrs p hx
    obtain ⟨hb, h⟩ := br_ok (show (T.br (Nat.ble ((r + n) * rs') cells.length && allLeaf ((cells.drop (r * rs')).take (n * rs'))) (f (.cells ((cells.drop (r * rs')).take (n * rs')))) .fail).holds Q Qp from h)
    obtain ⟨hb, hlf⟩ := Bool.and_eq_true_iff.1 hb
    have hb : (r + n) * rs' ≤ cells.length := Nat.le_of_ble_eq_true hb
    have hrr : rs' = rs := h2.symm.trans this
    subst hrr
    rw [Nat.add_mul] at hb
    have key : ∀ (i : Nat) (a : AV), ((cells.drop (r * rs')).take (n * rs'))[i]? = some a → ∃ z, w.cell? ((p.at r 0).add i) = some z ∧ AVRel φ a z ∧ z.oneCell' = true := by
      intro i a ha
      have hi := (List.getElem?_eq_some_iff.1 ha).1
      have hm : a ∈ (cells.drop (r * rs')).take (n * rs') := List.mem_of_getElem? ha
      rw [List.length_take] at hi
      rw [List.getElem?_take, if_pos (by omega), List.getElem?_drop] at ha
      obtain ⟨z, hz, hrel⟩ := h4 _ _ ha
      refine ⟨z, ?_, hrel, leafA_one (allLeaf_ok hlf _ hm) hrel⟩
      rw [at_add p hps, at_eq p hps, h1, h2]
      simpa using hz
    have hlen : ((cells.drop (r * rs')).take (n * rs')).length = n * rs' := by
      rw [List.length_take, List.length_drop]; omega
    refine ⟨_, (List.range (n * rs')).map fun i => (w.cell? ((p.at r 0).add i)).getD undef, h, by simp, ?_, ?_, ?_⟩
    · show AVsRel φ _ _
      refine AVsRel.of_get (by rw [hlen]; simp) fun i a y ha hy => ?_
      obtain ⟨z, h5, h6, _⟩ := key i a ha
      have hi : i < n * rs' := by rw [← hlen]; exact (List.getElem?_eq_some_iff.1 ha).1
      simp only [List.getElem?_map, List.getElem?_range hi, Option.map_some, h5, Option.getD_some, Option.some.injEq] at hy
      subst hy
      exact h6
    · intro u hu
      obtain ⟨i, hi, rfl⟩ := List.mem_map.1 hu
      have hi := List.mem_range.1 hi
      obtain ⟨z, h5, _, h7⟩ := key i _ (List.getElem?_eq_getElem (by rw [hlen]; exact hi))
      rw [h5]; exact h7
    · intro q hq j u hu
      cases hq
      have hj : j < n * rs' := by simpa using (List.getElem?_eq_some_iff.1 hu).1
      obtain ⟨z, h5, _⟩ := key j _ (List.getElem?_eq_getElem (by rw [hlen]; exact hj))
      simp only [List.getElem?_map, List.getElem?_range hj, Option.map_some, h5, Option.getD_some, Option.some.injEq] at hu
      subst hu
      exact h5
end Go.Eng

set_option autoImplicit false
namespace Go.Eng
open Go Go.RowKit

theorem pick_ok {α : Type} {f : AV → Option α} {rs c : Nat} {cells : List AV} (n : Nat) : ∀ {l : List α}, pick f rs c cells n = some l → l.length = n ∧ ∀ j, j < n → ∃ a x, cells[j * rs + c]? = some a ∧ f a = some x ∧ l[j]? = some x := by
  induction n with
  | zero => intro l h; cases h; exact ⟨rfl, fun j hj => absurd hj (Nat.not_lt_zero _)⟩
  | succ n ih =>
    intro l h
    simp only [pick, Option.bind_eq_some_iff, Option.map_eq_some_iff] at h
    obtain ⟨l0, h0, x, ⟨a, ha, hx⟩, rfl⟩ := h
    obtain ⟨h1, h2⟩ := ih h0
    refine ⟨by simp [h1], fun j hj => ?_⟩
    by_cases e : j = n
    · subst e; exact ⟨a, x, ha, hx, by rw [List.getElem?_append_right (by omega), h1]; simp⟩
    · obtain ⟨a', x', h3, h4, h5⟩ := h2 j (by omega)
      exact ⟨a', x', h3, h4, by rw [List.getElem?_append_left (by omega)]; exact h5⟩

theorem getD_of {α : Type} {l : List α} {j : Nat} {x d : α} (h : l[j]? = some x) : l.getD j d = x := by simp [List.getD_eq_getElem?_getD, h]
theorem colOf_ok {N : NB} {φ : Phi} {w : World} {rs c n : Nat} {cells : List AV} {vs : List Value} (hr : AVsRel φ cells vs) {k : CK} {col : Col} (h : colOf rs c n cells k = some col) :
    col.len = n ∧ ∀ j, j < n → ∃ z, vs[j * rs + c]? = some z ∧ ColRel N w col j z := by
  cases k with
  | int k =>
    simp only [colOf, Option.map_eq_some_iff] at h
    obtain ⟨l, hl, rfl⟩ := h
    obtain ⟨h1, h2⟩ := pick_ok n hl
    refine ⟨h1, fun j hj => ?_⟩
    obtain ⟨a, x, h3, h4, h5⟩ := h2 j hj
    obtain ⟨y, hy, hrel⟩ := hr.get _ _ h3
    refine ⟨y, hy, ?_⟩
    have := ColRel.ci (N := N) (w := w) k l j
    rw [getD_of h5] at this
    cases a <;> simp only [iOf, reduceCtorEq] at h4
    split at h4
    · rename_i e; subst e; cases h4; cases hrel; exact this
    · cases h4
  | str =>
    simp only [colOf, Option.map_eq_some_iff] at h
    obtain ⟨l, hl, rfl⟩ := h
    obtain ⟨h1, h2⟩ := pick_ok n hl
    refine ⟨h1, fun j hj => ?_⟩
    obtain ⟨a, x, h3, h4, h5⟩ := h2 j hj
    obtain ⟨y, hy, hrel⟩ := hr.get _ _ h3
    refine ⟨y, hy, ?_⟩
    have := ColRel.cs (N := N) (w := w) l j
    rw [getD_of h5] at this
    cases a <;> simp only [sOf, reduceCtorEq] at h4
    cases h4; cases hrel; exact this
  | bool =>
    simp only [colOf, Option.map_eq_some_iff] at h
    obtain ⟨l, hl, rfl⟩ := h
    obtain ⟨h1, h2⟩ := pick_ok n hl
    refine ⟨h1, fun j hj => ?_⟩
    obtain ⟨a, x, h3, h4, h5⟩ := h2 j hj
    obtain ⟨y, hy, hrel⟩ := hr.get _ _ h3
    refine ⟨y, hy, ?_⟩
    have := ColRel.cb (N := N) (w := w) l j
    rw [getD_of h5] at this
    cases a <;> simp only [bOf, reduceCtorEq] at h4
    cases h4; cases hrel; exact this
  | flt =>
    simp only [colOf, Option.map_eq_some_iff] at h
    obtain ⟨l, hl, rfl⟩ := h
    obtain ⟨h1, h2⟩ := pick_ok n hl
    refine ⟨h1, fun j hj => ?_⟩
    obtain ⟨a, x, h3, h4, h5⟩ := h2 j hj
    obtain ⟨y, hy, hrel⟩ := hr.get _ _ h3
    refine ⟨y, hy, ?_⟩
    have := ColRel.cf (N := N) (w := w) .f64 l j
    rw [getD_of h5] at this
    unfold fOf at h4
    split at h4
    · cases h4; cases hrel; exact this
    · cases h4
  | _ => cases h
theorem colsOf_ok {N : NB} {φ : Phi} {w : World} {rs n : Nat} {cells : List AV} {vs : List Value} (hr : AVsRel φ cells vs) (ks : List CK) : ∀ (c : Nat) {cols : List Col} (_ : colsOf rs n cells c ks = some cols),
    ∀ (i : Nat) (col : Col), cols[i]? = some col → col.len = n ∧ ∀ j, j < n → ∃ z, vs[j * rs + (c + i)]? = some z ∧ ColRel N w col j z := by
  induction ks with
  | nil => intro c cols h i col hi; cases h; simp at hi
  | cons k ks ih =>
    intro c cols h i col hi
    simp only [colsOf, Option.bind_eq_some_iff, Option.map_eq_some_iff] at h
    obtain ⟨x, hx, l, hl, rfl⟩ := h
    cases i with
    | zero => simp at hi; subst hi; exact colOf_ok hr hx
    | succ i =>
      simp at hi
      have := ih (c + 1) hl i col hi
      rwa [show c + 1 + i = c + (i + 1) by omega] at this
theorem normC_ok {N : NB} {φ : Phi} {w : World} {ti : TI} {n : Nat} {vs : List Value} {c d : AC} (h : ACRel N φ w ti.size n vs c) (hd : normC ti n c = some d) : ACRel N φ w ti.size n vs d := by
  cases c with
  | cols m l => cases hd; exact h
  | cells l =>
    have hd : bif2 (plainK ti.kinds) ((colsOf ti.size n l 0 ti.kinds).map (.cols n)) (some (.cells l)) = some d := hd
    rw [bif2_eq] at hd
    split at hd
    · obtain ⟨cols, hc, rfl⟩ := Option.map_eq_some_iff.1 hd
      have := colsOf_ok (N := N) (w := w) (show AVsRel φ l vs from h) ti.kinds 0 hc
      exact ⟨rfl, fun i col hi => (this i col hi).1, fun j hj i col hi => by simpa using (this i col hi).2 j hj⟩
    · cases hd; exact h

theorem colApp_ok {N : NB} {w : World} {a b c : Col} (h : Col.app a b = some c) : c.len = a.len + b.len ∧ (∀ j z, j < a.len → ColRel N w a j z → ColRel N w c j z) ∧ ∀ j z, ColRel N w b j z → ColRel N w c (a.len + j) z := by
  have gl : ∀ {α : Type} (l m : List α) (d : α) (j : Nat), j < l.length → (l ++ m).getD j d = l.getD j d := by
    intro α l m d j hj; simp only [List.getD_eq_getElem?_getD, List.getElem?_append_left hj]
  have gr : ∀ {α : Type} (l m : List α) (d : α) (j : Nat), (l ++ m).getD (l.length + j) d = m.getD j d := by
    intro α l m d j
    simp only [List.getD_eq_getElem?_getD]
    rw [List.getElem?_append_right (by omega), show l.length + j - l.length = j by omega]
  cases a <;> cases b <;> simp only [Col.app, reduceCtorEq] at h
  · split at h
    · rename_i k l k' l' e
      subst e; cases h
      refine ⟨by simp [Col.len], fun j z hj hz => ?_, fun j z hz => ?_⟩
      · cases hz; have := ColRel.ci (N := N) (w := w) k (l ++ l') j; rwa [gl _ _ _ _ hj] at this
      · cases hz; have := ColRel.ci (N := N) (w := w) k (l ++ l') (l.length + j); rwa [gr] at this
    · cases h
  · cases h
    rename_i l l'
    refine ⟨by simp [Col.len], fun j z hj hz => ?_, fun j z hz => ?_⟩
    · cases hz; have := ColRel.cs (N := N) (w := w) (l ++ l') j; rwa [gl _ _ _ _ hj] at this
    · cases hz; have := ColRel.cs (N := N) (w := w) (l ++ l') (l.length + j); rwa [gr] at this
  · cases h
    rename_i l l'
    refine ⟨by simp [Col.len], fun j z hj hz => ?_, fun j z hz => ?_⟩
    · cases hz; have := ColRel.cb (N := N) (w := w) (l ++ l') j; rwa [gl _ _ _ _ hj] at this
    · cases hz; have := ColRel.cb (N := N) (w := w) (l ++ l') (l.length + j); rwa [gr] at this
  · split at h
    · rename_i k l k' l' e
      subst e; cases h
      refine ⟨by simp [Col.len], fun j z hj hz => ?_, fun j z hz => ?_⟩
      · cases hz; have := ColRel.cf (N := N) (w := w) k (l ++ l') j; rwa [gl _ _ _ _ hj] at this
      · cases hz; have := ColRel.cf (N := N) (w := w) k (l ++ l') (l.length + j); rwa [gr] at this
    · cases h
theorem colsApp_ok (l : List Col) : ∀ {m r : List Col} (_ : colsApp l m = some r) (i : Nat) (c : Col), r[i]? = some c → ∃ a b, l[i]? = some a ∧ m[i]? = some b ∧ Col.app a b = some c := by
  induction l with
  | nil => intro m r h i c hi; cases m <;> simp [colsApp] at h; subst h; simp at hi
  | cons a l ih =>
    intro m r h i c hi
    cases m with
    | nil => simp [colsApp] at h
    | cons b m =>
      simp only [colsApp, Option.bind_eq_some_iff, Option.map_eq_some_iff] at h
      obtain ⟨x, hx, r', hr, rfl⟩ := h
      cases i with
      | zero => simp at hi; subst hi; exact ⟨a, b, rfl, rfl, hx⟩
      | succ i => simp at hi; simpa using ih hr i c hi
theorem joinC_ok {N : NB} {φ : Phi} {w : World} {rs n m : Nat} {vs us : List Value} {c d e : AC} (hv : vs.length = n * rs) (hc : ACRel N φ w rs n vs c) (hd : ACRel N φ w rs m us d) (h : joinC c d = some e) :
    ACRel N φ w rs (n + m) (vs ++ us) e := by
  cases c <;> cases d <;> simp only [joinC, reduceCtorEq] at h
  · cases h; exact AVsRel.append hc hd
  · obtain ⟨cols, hcols, rfl⟩ := Option.map_eq_some_iff.1 h
    obtain ⟨rfl, l1, c1⟩ := hc
    obtain ⟨rfl, l2, c2⟩ := hd
    rename_i n l m r
    refine ⟨rfl, fun i col hi => ?_, fun j hj i col hi => ?_⟩
    · obtain ⟨a, b, h1, h2, h3⟩ := colsApp_ok _ hcols i col hi
      rw [(colApp_ok (N := N) (w := w) h3).1, l1 i a h1, l2 i b h2]
    · obtain ⟨a, b, h1, h2, h3⟩ := colsApp_ok _ hcols i col hi
      obtain ⟨_, k1, k2⟩ := colApp_ok (N := N) (w := w) h3
      by_cases hj1 : j < n
      · obtain ⟨z, hz, hrel⟩ := c1 j hj1 i a h1
        exact ⟨z, by rw [List.getElem?_append_left (List.getElem?_eq_some_iff.1 hz).1]; exact hz, k1 j z (by rw [l1 i a h1]; exact hj1) hrel⟩
      · obtain ⟨z, hz, hrel⟩ := c2 (j - n) (by omega) i b h2
        have e : j * rs + i = vs.length + ((j - n) * rs + i) := by
          rw [hv, show j = n + (j - n) by omega, Nat.add_mul]
          simp only [show n + (j - n) - n = j - n by omega]
          omega
        refine ⟨z, ?_, ?_⟩
        · rw [e, List.getElem?_append_right (by omega), show vs.length + ((j - n) * rs + i) - vs.length = (j - n) * rs + i by omega]
          exact hz
        · have := k2 (j - n) z hrel
          rwa [l1 i a h1, show n + (j - n) = j by omega] at this
end Go.Eng

set_option autoImplicit false
namespace Go.Eng
open Go Go.RowKit

theorem objOf_ok {N : NB} {φ φ' : Phi} {w w' : World} {id : Nat} {el : TypeId} {rs n : Nat} {c : AC} {vs : List Value} {p : Pl} (hp : φ' id = some (some p)) (h0 : p.o = 0 ∧ p.spot = none) (hrs : p.rs = rs) (hb : OwnBlock w' p.b el (p.k * rs)) (hok : okC rs n c = true) (hn : n ≤ p.k)
    (hle : PhiLe φ φ') (hs : SameBelow N w w') (h : ACRel N φ w rs n vs c) (hv : ∀ j u, vs[j]? = some u → w'.cell? ⟨p.b, j, none⟩ = some u) : ObjRel N φ' w' id (objOf el rs c) := by
  subst hrs
  cases c with
  | cells l =>
    obtain ⟨_, h2⟩ := Bool.and_eq_true_iff.1 (show (allLeaf l && Nat.beq l.length (n * p.rs)) = true from hok)
    have h2 : l.length = n * p.rs := Nat.eq_of_beq_eq_true h2
    refine ⟨p, hp, h0, rfl, hb, by rw [h2]; exact Nat.mul_le_mul_right _ hn, fun j a ha => ?_⟩
    obtain ⟨y, hy, hrel⟩ := AVsRel.get h j a ha
    exact ⟨y, hv j y hy, hrel.mono hle⟩
  | cols m cols =>
    obtain ⟨h1, h2⟩ := Bool.and_eq_true_iff.1 (show (Nat.beq m n && Nat.beq cols.length p.rs) = true from hok)
    have h2 : cols.length = p.rs := Nat.eq_of_beq_eq_true h2
    obtain ⟨rfl, hl, hc⟩ := h
    refine ⟨hl, p, hp, h0, h2.symm, by rw [h2]; exact hb, hn, fun j hj i col hi => ?_⟩
    obtain ⟨z, hz, hrel⟩ := hc j hj i col hi
    refine ⟨z, ?_, hrel.same hs⟩
    have := hv _ z hz
    rw [at_eq p h0.2, h0.1]
    simpa using this

theorem size_setCells (w : World) (b : Nat) (vs : List Value) : ∀ o, (w.setCells b o vs).heap.size = w.heap.size := by
  induction vs generalizing w with
  | nil => intro o; rfl
  | cons v vs ih => intro o; rw [World.setCells, ih]; simp [World.setCell]
theorem tape_setCells (w : World) (b : Nat) (vs : List Value) : ∀ o, (w.setCells b o vs).tape = w.tape := by
  induction vs generalizing w with
  | nil => intro o; rfl
  | cons v vs ih => intro o; rw [World.setCells, ih]; rfl
theorem ownBlock_setCells {w : World} {b : Nat} {e : TypeId} {k : Nat} (h : OwnBlock w b e k) (vs : List Value) : ∀ o, OwnBlock (w.setCells b o vs) b e k := by
  induction vs generalizing w with
  | nil => intro o; exact h
  | cons v vs ih =>
    intro o
    rw [World.setCells]
    refine ih ?_ _
    obtain ⟨cur, f, h1, h2, h3⟩ := h
    exact ⟨_, f, setCell_block w b o v cur e _ h1, by simpa using h2, h3⟩
/-- What is appended, by what the call comes to. -/
structure SrcG (P : Program) (el : TypeId) (size : Nat) (tx : TypeId) (x : Value) (n : Nat) (news : List Value) (w : World) : Prop where
  newsLen : news.length = n * size
  stay : n = 0 → ∀ (t ty : TypeId) (i : TypeInfo) (A : Option Addr), P.underlying t = some (.slice el) → P.info? el = some i → i.size = size → (Builtin.append_ #[t, tx] ty #[.slice A 0 0, x]).run P w = .ok (.slice A 0 0) w
  room : ∀ (t ty : TypeId) (i : TypeInfo) (b off sLen sCap : Nat), P.underlying t = some (.slice el) → P.info? el = some i → i.size = size → sLen + n ≤ sCap → (∀ j, j < news.length → (w.cell? ⟨b, off + sLen * i.size + j, none⟩).isSome = true) →
    (∀ j, j < news.length → w.frozen? ⟨b, off + sLen * i.size + j, none⟩ = false) →
    (Builtin.append_ #[t, tx] ty #[.slice (some ⟨b, off, none⟩) sLen sCap, x]).run P w = .ok (.slice (some ⟨b, off, none⟩) (sLen + n) sCap) (w.setCells b (off + sLen * i.size) news)
  grow : ∀ (t ty : TypeId) (i : TypeInfo) (z : Value) (base : Option Addr) (sLen sCap : Nat) (olds : List Value), P.underlying t = some (.slice el) → P.info? el = some i → i.zero = some z → i.size = size →
    (Builtin.firstCells i.size sLen (.slice base sLen sCap)).run P w.drew = .ok olds.toArray w.drew → sCap < sLen + n → ((sLen + n : Nat) : Int) ≤ 9223372036854775807 → Builtin.nextslicecap (sLen + n) sCap * i.bytes ≤ 281474976710656 →
    (Builtin.append_ #[t, tx] ty #[.slice base sLen sCap, x]).run P w =
      .ok (.slice (some ⟨w.heap.size, 0, none⟩) (sLen + n) (grownCap w (sLen + n) sCap el))
        (w.drew.alloc (.cells ((olds ++ news).toArray ++ Builtin.zeroCells z.cells (grownCap w (sLen + n) sCap el - (sLen + n))) el))
theorem SrcG.ofSrc {P : Program} {el : TypeId} {size : Nat} {tx : TypeId} {x : Value} {n : Nat} {news : List Value} {w : World} (hs : Src P size tx x n news w) : SrcG P el size tx x n news w where
  newsLen := hs.newsLen
  stay := by
    intro hn t ty i A ht hi hsz
    subst hn hsz
    have hnews : news = [] := List.length_eq_zero_iff.1 (by rw [hs.newsLen]; simp)
    subst hnews
    rcases hs.kind with ⟨e', hk⟩ | hk <;> cases A <;> simp [Builtin.append_, run_underlying ht, run_underlying hk, sizeOf, typeInfo, hi, hs.len, hs.cells, Go.storeCells]
  room := by
    intro t ty i b off sLen sCap ht hi hsz hroom hc hf
    subst hsz
    exact run_append_room_src (P := P) w t tx ty el i ht hi b off sLen sCap x n news hs hroom hc hf
  grow := by
    intro t ty i z base sLen sCap olds ht hi hz hsz hold hg h63 hfit
    subst hsz
    exact run_append_grow_src (P := P) w t tx ty el i z ht hi hz base sLen sCap olds hold x n news hs hg h63 hfit
/-- So many zeros. -/
theorem SrcG.ofZeros {P : Program} {el : TypeId} {size : Nat} {tx : TypeId} {kn kq : IntKind} {k : Nat} {i : TypeInfo} {z : Value} {w : World} (htn : P.underlying tx = some (.int kn)) (hi : P.info? el = some i) (hz : i.zero = some z) (hsz : i.size = size) (hzs : z.cells.size = size) (h0 : 0 < size)
    (hone : ∀ u ∈ (Builtin.zeroCells z.cells k).toList, u.oneCell' = true) (h48 : k * i.bytes ≤ 140737488355328) (h63 : (k : Int) ≤ 140737488355328) : SrcG P el size tx (.int kq k) k (Builtin.zeroCells z.cells k).toList w where
  newsLen := by rw [Array.length_toList, size_zeroCells, hzs]
  stay := by
    intro hn t ty i' A ht hi' hsz'
    subst hn
    cases A <;> simp [Builtin.append_, run_underlying ht, run_underlying htn, sizeOf, typeInfo, hi, Go.storeCells, asInt, asIntOf, IntKind.wrap_i64]
  room := by
    intro t ty i' b off sLen sCap ht hi' hsz' hroom hc hf
    rw [hi] at hi'
    cases hi'
    have hst := run_storeCells_cells (P := P) b (off + sLen * i.size) (Builtin.zeroCells z.cells k).toList 0 w (by simpa using hc) (by simpa using hf) hone
    simp only [Nat.add_zero] at hst
    have hw : IntKind.i64.wrap (k : Int) = k := by rw [IntKind.wrap_i64]; omega
    have h48i : ¬ (281474976710656 < (k : Int) * (i.bytes : Int)) := by
      rw [← Int.natCast_mul]
      omega
    have hneg : ¬ ((k : Int) < 0) := by omega
    by_cases hk : k = 0
    · subst hk
      have e : (Builtin.zeroCells z.cells 0).toList = [] := List.length_eq_zero_iff.1 (by rw [Array.length_toList, size_zeroCells]; simp)
      rw [e]
      simp only [Nat.add_zero] at hroom
      simp [Builtin.append_, run_underlying ht, run_underlying htn, sizeOf, typeInfo, hi, asInt, asIntOf, IntKind.wrap_i64, Addr.add_lit, hroom, Go.storeCells, World.setCells]
    · have hns : ¬ (k * i.size = 0) := Nat.mul_ne_zero hk (by omega)
      simp [Builtin.append_, run_underlying ht, run_underlying htn, sizeOf, typeInfo, zeroValue, hi, hz, asInt, asIntOf, hw, hneg, h48i, hns, hroom, Addr.add_lit, hst]
  grow := by
    intro t ty i' z' base sLen sCap olds ht hi' hz' hsz' hold hg h63' hfit
    rw [hi] at hi'
    cases hi'
    rw [hz] at hz'
    cases hz'
    by_cases hk : k = 0
    · subst hk
      have e : (Builtin.zeroCells z.cells 0) = #[] := Array.eq_empty_of_size_eq_zero (by rw [size_zeroCells]; simp)
      have hn : ¬ (sLen ≤ sCap) := by omega
      rw [e]
      have h63'' : ¬ (9223372036854775807 < (sLen : Int)) := by simp only [Nat.add_zero] at h63'; omega
      have h48' : ¬ (281474976710656 < Builtin.nextslicecap sLen sCap * i.bytes) := by simp only [Nat.add_zero] at hfit; omega
      simp [Builtin.append_, run_underlying ht, run_underlying htn, sizeOf, typeInfo, zeroValue, hi, hz, asInt, asIntOf, IntKind.wrap_i64, hn, h63'', h48', Question.forced, hold, newRow, grownCap]
    · have := Lib.run_append_grow_zeros (P := P) w t tx ty el i z kq kn ht htn hi hz base sLen sCap olds hold k (by omega) (by omega) hg h63' (by omega) hfit
      rw [this]
      congr 3
      apply Array.ext'
      simp
/-- What is appended. -/
structure SrcA (P : Program) (N : NB) (φ : Phi) (w : World) (el : TypeId) (size : Nat) (tx : TypeId) (y : Value) (m : Nat) (news : List Value) (c : AC) : Prop where
  src : SrcG P el size tx y m news w
  rel : ACRel N φ w size m news c

theorem appNil_ok {P : Program} {t tx ty el : TypeId} {ti : TI} (ht : P.underlying t = some (.slice el)) (te : TIok P el ti) {N : NB} {φ : Phi} {M : Mem} {w : World} (hr : Rep N φ M w) {m : Nat} {s : AV} {A : Option Addr} {y : Value} {news : List Value} {c : AC}
    (hs : AVRel φ s (.slice A 0 0)) (hc : SrcA P N φ w el ti.size tx y m news c) {Q : AV × Mem → Prop} {Qp : AV → Mem → Prop} (h : (appNil ti M el m s c).holds Q Qp) :
    ∃ z w', (Builtin.append_ #[t, tx] ty #[.slice A 0 0, y]).run P w = .ok z w' ∧ Good N φ M w Q z w' := by
  obtain ⟨i, z, hi, hsz, hby, hz, hzz, hzs⟩ := te.info
  rw [← hsz] at hc
  obtain ⟨h1, h2⟩ := h
  cases hb : Nat.beq m 0 with
  | true =>
    have hm : m = 0 := Nat.eq_of_beq_eq_true hb
    subst hm
    refine ⟨_, _, ?_, .here hr (h1 hb) hs⟩
    exact hc.src.stay rfl t ty i A ht hi rfl
  | false =>
    have hm : m ≠ 0 := Nat.ne_of_beq_eq_false hb
    obtain ⟨hro, h⟩ := br_ok (h2 hb)
    obtain ⟨hb0, hfit⟩ := Bool.and_eq_true_iff.1 hro
    have hb0 : 0 < ti.bytes := Nat.le_of_ble_eq_true hb0
    have hfit : m * ti.bytes ≤ 140737488355328 := Nat.le_of_ble_eq_true hfit
    obtain ⟨d, hd, h⟩ := onO_ok h
    obtain ⟨hok, hq⟩ := br_ok h
    have hrel : ACRel N φ w ti.size m news d := normC_ok (by rw [← hsz]; exact hc.rel) hd
    have hm1 : m ≤ m * ti.bytes := Nat.le_mul_of_pos_right m hb0
    have hrun := hc.src.grow t ty i z A 0 0 [] ht hi hz rfl (by
      cases A with
      | none => exact run_firstCells_none _ _ _ _ _
      | some a => simpa using run_firstCells_some (P := P) w.drew i.size 0 a 0 0 [] (by simp) (by simp)) (by omega) (by omega) (by rw [Nat.zero_add, hby]; exact growslice_fits (by omega) hfit)
    have hge := grownCap_ge w (0 + m) 0 el
    refine ⟨_, _, hrun, ?_⟩
    have key := (hr.draw).newOwn (objOf el ti.size d) (.cells (([] ++ news).toArray ++ Builtin.zeroCells z.cells (grownCap w (0 + m) 0 el - (0 + m))) el) ⟨w.heap.size, 0, ti.size, grownCap w (0 + m) 0 el, none⟩ rfl (by
      refine objOf_ok (φ := φ) (w := w) (p := ⟨w.heap.size, 0, ti.size, grownCap w (0 + m) 0 el, none⟩) (updP_self ..) ⟨rfl, rfl⟩ rfl ⟨_, _, alloc_new _ _, ?_, .inl rfl⟩ hok (by simpa using hge) (updP_le _ (hr.fresh _ (Nat.le_refl _)).2) (fun b hb => push_same w.drew _ b (Nat.lt_of_lt_of_le hb hr.size)) hrel fun j u hu => ?_
      · simp only [Array.size_append, List.size_toArray, size_zeroCells, List.nil_append, hc.src.newsLen, hzs, hsz]
        rw [← Nat.add_mul]
        congr 1
        omega
      · have hj := (List.getElem?_eq_some_iff.1 hu).1
        show (w.drew.alloc _).cell? ⟨w.drew.heap.size, j, none⟩ = some u
        simp only [World.cell?, alloc_new]
        rw [Array.getElem?_append_left (by simpa using hj)]
        simpa using hu)
    refine ⟨_, _, _, hq, ?_, key.1, (Ext.draw φ M w).trans key.2⟩
    have := AVRel.sl (φ := updP φ M.next (some ⟨w.heap.size, 0, ti.size, grownCap w (0 + m) 0 el, none⟩)) M.next 0 m none _ (grownCap w (0 + m) 0 el) (updP_self ..) (fun h => by cases h) (fun c h => by cases h) (by omega) (fun p h => by cases h; simp) (fun p h _ => by cases h; rfl)
    simpa [Pl.at] using this

theorem appOwn_ok {P : Program} {t tx ty el : TypeId} {ti : TI} (ht : P.underlying t = some (.slice el)) (te : TIok P el ti) {N : NB} {φ : Phi} {M : Mem} {w : World} (hr : Rep N φ M w) {m id n cc : Nat} {x : Option Pl} {y : Value} {news : List Value} {c : AC}
    (hx : φ id = some x) (hrs : ∀ p, φ id = some (some p) → p.rs = ti.size) (hle : n ≤ cc) (hk : ∀ p, x = some p → cc ≤ p.k) (hc : SrcA P N φ w el ti.size tx y m news c) {Q : AV × Mem → Prop} {Qp : AV → Mem → Prop} (h : (appOwn ti M el id n m c).holds Q Qp) :
    ∃ z w', (Builtin.append_ #[t, tx] ty #[.slice (x.map fun p => p.at 0 0) n cc, y]).run P w = .ok z w' ∧ Good N φ M w Q z w' := by
  obtain ⟨i, z, hi, hsz, hby, hz, hzz, hzs⟩ := te.info
  have hkey : (appOwn.appOwn1 ti M el id n m c).holds Q Qp ∧ isOwn (M.get id) ∧ ∃ p, x = some p ∧ (p.o = 0 ∧ p.spot = none) ∧ OwnBlock w p.b el (p.k * ti.size) := by
    have ho := hr.objs id
    unfold appOwn at h
    cases hg : M.get id with
    | dead => rw [hg] at h; exact h.elim
    | ro => rw [hg] at h; exact h.elim
    | map es cl => rw [hg] at h; exact h.elim
    | own e rs cells =>
      rw [hg] at ho h
      obtain ⟨he, h⟩ := br_ok (show (T.br (Nat.beq e el) (appOwn.appOwn1 ti M el id n m c) .fail).holds Q Qp from h)
      have he : e = el := Nat.eq_of_beq_eq_true he
      subst he
      obtain ⟨q, hq, h1, h2, h3, _⟩ := ho
      have h5 := hrs q hq
      rw [hx] at hq; cases hq
      exact ⟨h, trivial, q, rfl, h1, by rw [← h5, h2]; exact h3⟩
    | vec e k cols =>
      rw [hg] at ho h
      obtain ⟨he, h⟩ := br_ok (show (T.br (Nat.beq e el) (appOwn.appOwn1 ti M el id n m c) .fail).holds Q Qp from h)
      have he : e = el := Nat.eq_of_beq_eq_true he
      subst he
      obtain ⟨_, q, hq, h1, h2, h3, _⟩ := ho
      have h5 := hrs q hq
      rw [hx] at hq; cases hq
      exact ⟨h, trivial, q, rfl, h1, by rw [← h5, h2]; exact h3⟩
  clear h
  obtain ⟨h, hown, p, rfl, hpo, hblk⟩ := hkey
  have hps := hrs p hx
  have hk := hk p rfl
  obtain ⟨hl, h⟩ := br_ok h
  have hl : M.lock ≤ id := Nat.le_of_ble_eq_true hl
  obtain ⟨d, olds, h, hol, hdrel, hone, hcells⟩ := acOf_ok hr hx hrs (fun e => by cases e) h
  have hcells := hcells p rfl
  obtain ⟨hro, h⟩ := br_ok h
  obtain ⟨hb0, hfit⟩ := Bool.and_eq_true_iff.1 hro
  have hb0 : 0 < ti.bytes := Nat.le_of_ble_eq_true hb0
  have hfit : (n + m) * ti.bytes ≤ 140737488355328 := Nat.le_of_ble_eq_true hfit
  obtain ⟨d', hd', h⟩ := onO_ok h
  obtain ⟨c', hc', h⟩ := onO_ok h
  obtain ⟨j, hj, h⟩ := onO_ok h
  obtain ⟨hok, hq⟩ := br_ok h
  have hrel : ACRel N φ w ti.size (n + m) (olds ++ news) j := joinC_ok hol (normC_ok hdrel hd') (normC_ok hc.rel hc') hj
  have hnl : news.length = m * ti.size := hc.src.newsLen
  have hm1 : n + m ≤ (n + m) * ti.bytes := Nat.le_mul_of_pos_right _ hb0
  have hadd : ∀ k, (p.at 0 0).add k = ⟨p.b, k, none⟩ := by intro k; rw [at_add p hpo.2, at_eq p hpo.2, hpo.1]; simp
  have hA : p.at 0 0 = ⟨p.b, 0, none⟩ := by rw [at_eq p hpo.2, hpo.1]; simp
  by_cases hroom : n + m ≤ cc
  · have hkk : (n + m) * ti.size ≤ p.k * ti.size := Nat.mul_le_mul_right _ (by omega)
    rw [Nat.add_mul] at hkk
    have hsome : ∀ j, j < news.length → (w.cell? ⟨p.b, n * ti.size + j, none⟩).isSome = true := fun j hj => hblk.cellSome (by omega)
    have hsrc := hc.src
    rw [← hsz] at hsrc
    have hrun := hsrc.room t ty i p.b 0 n cc ht hi rfl hroom (fun j hj => by rw [hsz, Nat.zero_add]; exact hsome j hj) (fun j hj => by rw [hsz, Nat.zero_add]; exact hblk.free (by omega))
    simp only [Option.map_some, hA]
    refine ⟨_, _, hrun, ?_⟩
    rw [hsz, Nat.zero_add]
    have hoth : ∀ b, b < w.heap.size → b ≠ p.b → (w.setCells p.b (n * ti.size) news).heap[b]? = w.heap[b]? := fun b hb hne => World.heap_setCells_other w p.b _ news hb hne
    have hkept := World.keptBut_setCells p.b (may := fun _ => True) news (n * ti.size) w (fun _ _ => trivial)
    have hsize : (w.setCells p.b (n * ti.size) news).heap.size = w.heap.size := size_setCells ..
    have hN := hr.high id p hown hx
    have key := hr.regrow hown hx hl (w' := w.setCells p.b (n * ti.size) news) (objOf el ti.size j) hsize (World.os_setCells ..) (tape_setCells ..) (World.output_setCells ..) hoth (by
      refine objOf_ok (φ := φ) (w := w) (updP_self ..) hpo hps ?_ hok (by omega) (updP_le _ (hr.fresh _ (Nat.le_refl _)).2) (fun b hb => hoth b (Nat.lt_of_lt_of_le hb hr.size) (by omega)) hrel fun k u hu => ?_
      · exact ownBlock_setCells hblk _ _
      · by_cases hk' : k < n * ti.size
        · rw [World.cell?_setCells_out p.b _ _ _ _ (fun _ _ => .inl hk')]
          rw [List.getElem?_append_left (by omega)] at hu
          rw [← hadd]
          exact hcells k u hu
        · have hlt := (List.getElem?_eq_some_iff.1 hu).1
          rw [List.length_append] at hlt
          have := World.cell?_setCells_in p.b news (n * ti.size) w hsome (k - n * ti.size) (by omega)
          rw [show n * ti.size + (k - n * ti.size) = k by omega] at this
          rw [this]
          rw [List.getElem?_append_right (by omega), hol, List.getElem?_eq_getElem (by omega)] at hu
          exact hu)
    refine ⟨_, _, _, hq, ?_, key.1, key.2⟩
    have := AVRel.sl (φ := updP φ M.next (some p)) M.next 0 (n + m) none _ cc (updP_self ..) (fun h => by cases h) (fun c h => by cases h) hroom (fun q h => by cases h; simpa using hk) (fun q h _ => by cases h; exact hpo.2)
    simp only [Option.map_some, hA] at this
    exact this
  · have hsrc := hc.src
    rw [← hsz] at hsrc
    have hrun := hsrc.grow t ty i z (some (p.at 0 0)) n cc olds ht hi hz rfl (by
      exact run_firstCells_some (P := P) w.drew i.size n (p.at 0 0) n cc olds (by rw [hol, hsz]) (by simpa using hcells)) (by omega) (by omega) (by rw [hby]; exact growslice_fits (by omega) hfit)
    have hge := grownCap_ge w (n + m) cc el
    refine ⟨_, _, hrun, ?_⟩
    have hkill := hr.kill id
    have key := (hkill.1.draw).newOwn (objOf el ti.size j) (.cells ((olds ++ news).toArray ++ Builtin.zeroCells z.cells (grownCap w (n + m) cc el - (n + m))) el) ⟨w.heap.size, 0, ti.size, grownCap w (n + m) cc el, none⟩ rfl (by
      refine objOf_ok (φ := φ) (w := w) (p := ⟨w.heap.size, 0, ti.size, grownCap w (n + m) cc el, none⟩) (updP_self ..) ⟨rfl, rfl⟩ rfl ⟨_, _, alloc_new _ _, ?_, .inl rfl⟩ hok hge (updP_le _ (hr.fresh _ (Nat.le_refl _)).2) (fun b hb => push_same w.drew _ b (Nat.lt_of_lt_of_le hb hr.size)) hrel fun j u hu => ?_
      · simp only [Array.size_append, List.size_toArray, size_zeroCells, List.length_append, hol, hnl, hzs]
        rw [← Nat.add_mul, ← Nat.add_mul]
        congr 1
        omega
      · have hj := (List.getElem?_eq_some_iff.1 hu).1
        show (w.drew.alloc _).cell? ⟨w.drew.heap.size, j, none⟩ = some u
        simp only [World.cell?, alloc_new]
        rw [Array.getElem?_append_left (by simpa using hj)]
        simpa using hu)
    refine ⟨_, _, _, hq, ?_, key.1, hkill.2.trans ((Ext.draw φ _ w).trans key.2)⟩
    have := AVRel.sl (φ := updP φ (M.set id .dead).next (some ⟨w.heap.size, 0, ti.size, grownCap w (n + m) cc el, none⟩)) M.next 0 (n + m) none _ (grownCap w (n + m) cc el) (updP_self ..) (fun h => by cases h) (fun c h => by cases h) hge (fun p h => by cases h; simp) (fun p h _ => by cases h; rfl)
    simpa [Pl.at] using this
end Go.Eng

set_option autoImplicit false
namespace Go.Eng
open Go Go.RowKit

theorem avCol_ok {N : NB} {φ : Phi} {w : World} {col : Col} {j : Nat} {x : AV} {z : Value} (h : avCol j col = some x) (hz : ColRel N w col j z) : AVRel φ x z := by
  cases hz with
  | ci k l => cases h; exact .i _ _
  | cs l => cases h; exact .s _
  | cb l => cases h; exact .b _
  | cf k l => cases h; exact .v _
  | cl => cases h
theorem avL_ok {N : NB} {φ : Phi} {w : World} {rs k : Nat} {vs : List Value} {cols : List Col} (h0 : 0 < rs) (hl : vs.length = k * rs)
    (hc : ∀ j, j < k → ∀ c col, cols[c]? = some col → ∃ z, vs[j * rs + c]? = some z ∧ ColRel N w col j z) (n : Nat) : ∀ {i : Nat} {l : List AV}, avL rs cols n i = some l → i + n = vs.length → AVsRel φ l (vs.drop i) := by
  induction n with
  | zero =>
    intro i l h e
    have h : some [] = some l := h
    cases h
    rw [List.drop_eq_nil_of_le (by omega)]
    exact .nil
  | succ n ih =>
    intro i l h e
    have h : @Option.rec Col (fun _ => Option (List AV)) none (fun col => @Option.rec AV (fun _ => Option (List AV)) none (fun x => @Option.rec (List AV) (fun _ => Option (List AV)) none (fun l => some (x :: l)) (avL rs cols n (i + 1))) (avCol (i / rs) col)) (nth? cols (i % rs)) = some l := h
    cases h1 : nth? cols (i % rs) with
    | none => rw [h1] at h; cases h
    | some col =>
      rw [h1] at h
      have h : @Option.rec AV (fun _ => Option (List AV)) none (fun x => @Option.rec (List AV) (fun _ => Option (List AV)) none (fun l => some (x :: l)) (avL rs cols n (i + 1))) (avCol (i / rs) col) = some l := h
      cases h2 : avCol (i / rs) col with
      | none => rw [h2] at h; cases h
      | some x =>
        rw [h2] at h
        have h : @Option.rec (List AV) (fun _ => Option (List AV)) none (fun l => some (x :: l)) (avL rs cols n (i + 1)) = some l := h
        cases h3 : avL rs cols n (i + 1) with
        | none => rw [h3] at h; cases h
        | some l' =>
          rw [h3] at h
          have h : some (x :: l') = some l := h
          cases h
          have hik : i / rs < k := by
            rw [Nat.div_lt_iff_lt_mul h0]; omega
          obtain ⟨z, hz, hr⟩ := hc (i / rs) hik (i % rs) col (by rw [nth?_eq] at h1; exact h1)
          rw [show i / rs * rs + i % rs = i by rw [Nat.mul_comm]; exact Nat.div_add_mod i rs] at hz
          have := ih (i := i + 1) h3 (by omega)
          obtain ⟨hi, hz'⟩ := List.getElem?_eq_some_iff.1 hz
          rw [List.drop_eq_getElem_cons hi, hz']
          exact .cons (avCol_ok h2 hr) this
theorem gatherA_ok {N : NB} {φ : Phi} {w : World} {rs k : Nat} {vs : List Value} {c : AC} {l : List AV} (h0 : 0 < rs) (hl : vs.length = k * rs) (hc : ACRel N φ w rs k vs c) (h : gatherA rs k c = some l) : AVsRel φ l vs := by
  cases c with
  | cells l' =>
    have h : some l' = some l := h
    cases h
    exact hc
  | cols m cols =>
    obtain ⟨_, _, h3⟩ := hc
    have := avL_ok (φ := φ) h0 hl h3 (k * rs) (i := 0) h (by omega)
    rwa [List.drop_zero] at this
theorem storeFlat_set {P : Program} {N : NB} {id r rs : Nat} {p : Pl} {φ : Phi} (h0 : 0 < rs) (hrs : p.rs = rs) (hp : φ id = some (some p)) (hps : p.spot = none) (l : List AV) : ∀ {zs : List Value} (_ : AVsRel φ l zs) (i : Nat) {M : Mem} {w : World} (_ : Rep N φ M w)
    {Q : Mem → Prop} {Qp : AV → Mem → Prop} (_ : (storeFlat id r rs l M i).holds Q Qp),
    ∃ M', Q M' ∧ Rep N φ M' (w.setCells p.b (p.o + (r * rs + i)) zs) ∧ Ext φ M w φ M' (w.setCells p.b (p.o + (r * rs + i)) zs) := by
  induction l with
  | nil => intro zs hz i M w hr Q Qp h; cases hz; exact ⟨M, h, hr, .refl _ _ _⟩
  | cons x l ih =>
    intro zs hz i M w hr Q Qp h
    cases hz with
    | cons hx ht =>
      rename_i z zs
      have h' : ((storeCell M id (r + i / rs) (i % rs) x).bind fun M => storeFlat id r rs l M (i + 1)).holds Q Qp := h
      rw [T.holds_bind] at h'
      obtain ⟨hrun, M1, hq, hr1, he1⟩ := storeCell_ok (P := P) hr hp hx h'
      obtain ⟨M2, hq2, hr2, he2⟩ := ih ht (i + 1) hr1 hq
      have ea : p.at (r + i / rs) (i % rs) = ⟨p.b, p.o + (r * rs + i), none⟩ := by
        unfold Pl.at
        rw [hrs, hps]
        have := Nat.div_add_mod i rs
        rw [Nat.add_mul, Nat.mul_comm (i / rs)]
        congr 2
        omega
      rw [ea] at he1 hr2 he2
      rw [show p.o + (r * rs + (i + 1)) = p.o + (r * rs + i) + 1 by omega] at hr2 he2
      exact ⟨M2, hq2, by rw [World.setCells]; exact hr2, by rw [World.setCells]; exact he1.trans he2⟩
end Go.Eng

set_option autoImplicit false
namespace Go.Eng
open Go Go.RowKit

theorem leaves_one1 {φ : Phi} (l : List AV) : ∀ {zs : List Value}, allLeaf l = true → AVsRel φ l zs → ∀ z ∈ zs, z.oneCell' = true := by
  induction l with
  | nil => intro zs _ h; cases h; intro z hz; cases hz
  | cons x l ih =>
    intro zs hl h
    cases h with
    | cons h1 h2 =>
      have hl : @Bool.rec (fun _ => Bool) false (allLeaf l) (leafA x) = true := hl
      obtain ⟨a, b⟩ : leafA x = true ∧ allLeaf l = true := by
        cases hx : leafA x with
        | true => rw [hx] at hl; exact ⟨rfl, hl⟩
        | false => rw [hx] at hl; cases hl
      intro z hz
      rcases List.mem_cons.1 hz with rfl | hz
      · exact leafA_one a h1
      · exact ih b h2 z hz
theorem appIn_ok {P : Program} {t tx ty el : TypeId} {ti : TI} (ht : P.underlying t = some (.slice el)) (te : TIok P el ti) {N : NB} {φ : Phi} {M : Mem} {w : World} (hr : Rep N φ M w) {m id n cc k : Nat} {x : Option Pl} {y : Value} {news : List Value} {c : AC}
    (hx : φ id = some x) (hrs : ∀ p, φ id = some (some p) → p.rs = ti.size) (hcap : ∀ c, some k = some c → CapOk c cc) (hroom : n + m ≤ cc) (hk : ∀ p, x = some p → cc ≤ p.k) (hc : SrcA P N φ w el ti.size tx y m news c) {Q : AV × Mem → Prop} {Qp : AV → Mem → Prop} (h : (appIn ti M el id n m (some k) c).holds Q Qp) :
    ∃ z w', (Builtin.append_ #[t, tx] ty #[.slice (x.map fun p => p.at 0 0) n cc, y]).run P w = .ok z w' ∧ Good N φ M w Q z w' := by
  obtain ⟨i, z, hi, hsz, hby, hz, hzz, hzs⟩ := te.info
  have hkey : (appIn.appIn1 ti M id n m (some k) c).holds Q Qp ∧ isOwn (M.get id) ∧ ∃ p, x = some p ∧ (p.o = 0 ∧ p.spot = none) ∧ OwnBlock w p.b el (p.k * ti.size) := by
    have ho := hr.objs id
    unfold appIn at h
    cases hg : M.get id with
    | dead => rw [hg] at h; exact h.elim
    | ro => rw [hg] at h; exact h.elim
    | map es cl => rw [hg] at h; exact h.elim
    | own e rs cells =>
      rw [hg] at ho h
      obtain ⟨he, hin⟩ := br_ok (show (T.br (Nat.beq e el) (appIn.appIn1 ti M id n m (some k) c) .fail).holds Q Qp from h)
      have he : e = el := Nat.eq_of_beq_eq_true he
      subst he
      obtain ⟨q, hq, h1, h2, h3, _⟩ := ho
      have h5 := hrs q hq
      rw [hx] at hq; cases hq
      exact ⟨hin, trivial, q, rfl, h1, by rw [← h5, h2]; exact h3⟩
    | vec e k' cols =>
      rw [hg] at ho h
      obtain ⟨he, hin⟩ := br_ok (show (T.br (Nat.beq e el) (appIn.appIn1 ti M id n m (some k) c) .fail).holds Q Qp from h)
      have he : e = el := Nat.eq_of_beq_eq_true he
      subst he
      obtain ⟨_, q, hq, h1, h2, h3, _⟩ := ho
      have h5 := hrs q hq
      rw [hx] at hq; cases hq
      exact ⟨hin, trivial, q, rfl, h1, by rw [← h5, h2]; exact h3⟩
  clear h
  obtain ⟨h, hown, p, rfl, hpo, hblk⟩ := hkey
  have hk := hk p rfl
  obtain ⟨hl, h⟩ := br_ok h
  obtain ⟨hl, hs0⟩ := Bool.and_eq_true_iff.1 hl
  have hs0 : 0 < ti.size := Nat.le_of_ble_eq_true hs0
  obtain ⟨l, hgl, h⟩ := onO_ok h
  rw [T.holds_bind] at h
  have hnl : news.length = m * ti.size := hc.src.newsLen
  have hrel := gatherA_ok hs0 hnl hc.rel hgl
  obtain ⟨M', hq, hr', he'⟩ := storeFlat_set (P := P) hs0 (hrs p hx) hx hpo.2 l hrel 0 hr h
  rw [hpo.1, Nat.zero_add, Nat.add_zero] at hr' he'
  have hA : p.at 0 0 = ⟨p.b, 0, none⟩ := by rw [at_eq p hpo.2, hpo.1]; simp
  have hkk : (n + m) * ti.size ≤ p.k * ti.size := Nat.mul_le_mul_right _ (by omega)
  rw [Nat.add_mul] at hkk
  have hsrc := hc.src
  rw [← hsz] at hsrc
  have hrun := hsrc.room t ty i p.b 0 n cc ht hi rfl hroom (fun j hj => by rw [hsz, Nat.zero_add]; exact hblk.cellSome (by omega)) (fun j hj => by rw [hsz, Nat.zero_add]; exact hblk.free (by omega))
  simp only [Option.map_some, hA]
  refine ⟨_, _, hrun, ?_⟩
  rw [hsz, Nat.zero_add]
  refine ⟨φ, _, M', hq, ?_, hr', he'⟩
  have := AVRel.sl (φ := φ) id 0 (n + m) (some k) (some p) cc hx (fun h => by cases h) hcap hroom (fun q h => by cases h; simpa using hk) (fun q h _ => by cases h; exact hpo.2)
  simp only [Option.map_some, hA] at this
  exact this
theorem appTo_ok {P : Program} {t tx ty el : TypeId} {ti : TI} (ht : P.underlying t = some (.slice el)) (te : TIok P el ti) {N : NB} {φ : Phi} {M : Mem} {w : World} (hr : Rep N φ M w) {m : Nat} {s : AV} {sv y : Value} {news : List Value} {c : AC}
    (hs : AVRel φ s sv) (hc : SrcA P N φ w el ti.size tx y m news c) {Q : AV × Mem → Prop} {Qp : AV → Mem → Prop} (h : (appTo ti M el m s c).holds Q Qp) :
    ∃ z w', (Builtin.append_ #[t, tx] ty #[sv, y]).run P w = .ok z w' ∧ Good N φ M w Q z w' := by
  unfold appTo at h
  cases hs with
  | v =>
    obtain ⟨rfl, h⟩ := nilSl_ok (show (nilSl sv (appNil ti M el m (.v sv) c)).holds Q Qp from h)
    exact appNil_ok ht te hr (.v _) hc h
  | sl id r n cap x cc hx h0 hcap hle hk hs =>
    have h : (appSl ti M el m id r n cap c).holds Q Qp := h
    have big : ((T.br (Nat.beq r 0) (rsIs M id ti.size (appOwn ti M el id n m c)) .fail).holds Q Qp) → ∃ z w', (Builtin.append_ #[t, tx] ty #[.slice (x.map fun p => p.at r 0) n cc, y]).run P w = .ok z w' ∧ Good N φ M w Q z w' := by
      intro hh
      obtain ⟨hb, h'⟩ := br_ok hh
      have hb : r = 0 := Nat.eq_of_beq_eq_true hb
      subst hb
      obtain ⟨h', hrs⟩ := rsIs_ok hr h'
      exact appOwn_ok ht te hr hx hrs hle (fun p e => by simpa using hk p e) hc h'
    cases cap with
    | none => exact big h
    | some k =>
      have h : (bif2 (Nat.beq k 0) (appNil ti M el m (.sl id r n (some k)) c) (bif2 (Nat.ble (n + m + 18446744073709551616) k) (.br (Nat.beq r 0) (rsIs M id ti.size (appIn ti M el id n m (some k) c)) .fail) (.br (Nat.beq r 0) (rsIs M id ti.size (appOwn ti M el id n m c)) .fail))).holds Q Qp := h
      rw [bif2_eq] at h
      split at h
      · rename_i hk0
        have hk0 : k = 0 := Nat.eq_of_beq_eq_true hk0
        subst hk0
        have := (hcap 0 rfl).1 (by unfold bigC; omega)
        subst this
        have : n = 0 := by omega
        subst this
        exact appNil_ok ht te hr (.sl id r 0 (some 0) x 0 hx h0 hcap hle hk hs) hc h
      · rw [bif2_eq] at h
        split at h
        · rename_i hf
          have hf : n + m + 18446744073709551616 ≤ k := by simpa [Nat.ble_eq] using hf
          have hcc := (hcap k rfl).2 (by unfold bigC; omega)
          unfold bigC at hcc
          obtain ⟨hb, h'⟩ := br_ok h
          have hb : r = 0 := Nat.eq_of_beq_eq_true hb
          subst hb
          obtain ⟨h', hrs⟩ := rsIs_ok hr h'
          exact appIn_ok ht te hr hx hrs hcap (by omega) (fun p e => by simpa using hk p e) hc h'
        · exact big h
  | _ => exact h.elim

theorem evAppend_ok {P : Program} {tt : TT} (tok : TTok P tt) {N : NB} {φ : Phi} {M : Mem} {w : World} (hr : Rep N φ M w) {t tx ty : TypeId} {s x : AV} {sv y : Value} (hs : AVRel φ s sv) (hx : AVRel φ x y)
    {Q : AV × Mem → Prop} {Qp : AV → Mem → Prop} (h : (evAppend tt M t tx s x).holds Q Qp) : ∃ z w', (Builtin.append_ #[t, tx] ty #[sv, y]).run P w = .ok z w' ∧ Good N φ M w Q z w' := by
  unfold evAppend at h
  cases hu : (tt t).u with
  | sl el =>
    rw [hu] at h
    have ht := (tok t (by rw [hu]; simp)).und
    rw [hu] at ht
    have ht : P.underlying t = some (.slice el) := ht
    obtain ⟨hb, h⟩ := onK_both (show (onK (tt el).u (onK (tt tx).u .fail (appSrc (tt tx).u (tt tx).kind (tt el) M el s x)) (onK (tt tx).u .fail (appSrc (tt tx).u (tt tx).kind (tt el) M el s x))).holds Q Qp from h)
    have te := tok el hb
    rcases onK_ok h with ⟨_, _, h⟩ | ⟨hbx, _, h⟩
    · exact h.elim
    have tix := (tok tx hbx).und
    have tkx := (tok tx hbx).kind
    unfold appSrc at h
    cases hux : (tt tx).u with
    | sl e2 =>
      rw [hux] at h tix
      have tix : P.underlying tx = some (.slice e2) := tix
      cases hx with
      | v =>
        obtain ⟨rfl, h⟩ := nilSl_ok (show (nilSl y (appTo (tt el) M el 0 s (.cells []))).holds Q Qp from h)
        exact appTo_ok ht te hr hs ⟨.ofSrc (Src.ofNil w tix 0), show ACRel N φ w (tt el).size 0 [] (.cells []) from AVsRel.nil⟩ h
      | sl id r m cap pl cc hp h0 hcap hle hk hss =>
        obtain ⟨h, hrs⟩ := rsIs_ok hr (show (rsIs M id (tt el).size (acOf (M.get id) r m fun c => appTo (tt el) M el m s c)).holds Q Qp from h)
        obtain ⟨c, vs, h, hl, hrel, hone, hcells⟩ := acOf_ok hr hp hrs h0 h
        refine appTo_ok (news := vs) (c := c) ht te hr hs ⟨?_, hrel⟩ h
        cases pl with
        | none =>
          have := h0 rfl
          subst this
          have : vs = [] := List.length_eq_zero_iff.1 (by rw [hl]; simp)
          subst this
          exact .ofSrc (Src.ofNil w tix cc)
        | some p => exact .ofSrc (Src.ofSlice w tix _ m cc vs hl (hcells p rfl) hone)
      | e A cc => exact appTo_ok ht te hr hs ⟨.ofSrc (Src.ofSlice w tix A 0 cc [] (by simp) (by simp) (by simp)), show ACRel N φ w (tt el).size 0 [] (.cells []) from AVsRel.nil⟩ h
      | _ => exact h.elim
    | str =>
      rw [hux] at h tix
      have tix : P.underlying tx = some .string := tix
      obtain ⟨b, rfl, h⟩ := onS_ok (show (onS x fun b => .br (Nat.beq (tt el).size 1) (appTo (tt el) M el b.size s (.cols b.size [.ci .u8 (bytesCol b)])) .fail).holds Q Qp from h)
      cases hx
      obtain ⟨h1, h⟩ := br_ok h
      have h1 : (tt el).size = 1 := Nat.eq_of_beq_eq_true h1
      have hlen : (bytesCol b).length = b.size := by unfold bytesCol; rw [List.length_map, Array.length_toList]; rfl
      refine appTo_ok (news := byteCells b) (c := .cols b.size [.ci .u8 (bytesCol b)]) ht te hr hs ⟨by rw [h1]; exact .ofSrc (Src.ofString w tix b), rfl, fun c col hc => ?_, fun j hj c col hc => ?_⟩ h
      · cases c with
        | zero => simp at hc; subst hc; exact hlen
        | succ c => simp at hc
      · cases c with
        | succ c => simp at hc
        | zero =>
          simp at hc; subst hc
          rw [h1]
          have hj' : j < b.data.toList.length := by rw [Array.length_toList]; exact hj
          refine ⟨.int .u8 (b.data.toList[j]).toNat, ?_, ?_⟩
          · simp only [Nat.mul_one, Nat.add_zero, byteCells, List.getElem?_map, List.getElem?_eq_getElem hj', Option.map_some]
          · have := ColRel.ci (N := N) (w := w) .u8 (bytesCol b) j
            rw [getD_of (x := ((b.data.toList[j]).toNat : Int)) (by simp only [bytesCol, List.getElem?_map, List.getElem?_eq_getElem hj', Option.map_some])] at this
            exact this
    | leaf =>
      rw [hux] at h
      have h : (appZeros (tt tx).kind (tt el) M el s x).holds Q Qp := h
      unfold appZeros ifIntK at h
      cases hkx : (tt tx).kind with
      | int kn =>
        rw [hkx] at h tkx
        have htn : P.underlying tx = some (.int kn) := tkx
        have h2 := onI_ok (show (onI x fun _ k => .br (decide (0 ≤ k) && (decide (k ≤ 16777216) && (Nat.blt 0 (tt el).size && (Nat.ble (k.toNat * (tt el).bytes) 140737488355328 && allLeaf (tile (tt el).zero k.toNat))))) (appTo (tt el) M el k.toNat s (.cells (tile (tt el).zero k.toNat))) .fail).holds Q Qp from h)
        clear h
        obtain ⟨kq, k, rfl, h3⟩ := h2
        obtain ⟨hc, h⟩ := br_ok h3
        clear h3
        obtain ⟨hc0, hc1⟩ := Bool.and_eq_true_iff.1 hc
        obtain ⟨hc3, hc1⟩ := Bool.and_eq_true_iff.1 hc1
        obtain ⟨hc1, hc2⟩ := Bool.and_eq_true_iff.1 hc1
        obtain ⟨hc2, hleaf⟩ := Bool.and_eq_true_iff.1 hc2
        have d1 := of_decide_eq_true hc3
        have d0 := of_decide_eq_true hc0
        have h0 : 0 < (tt el).size := Nat.le_of_ble_eq_true hc1
        have hle : k.toNat * (tt el).bytes ≤ 140737488355328 := Nat.le_of_ble_eq_true hc2
        obtain ⟨i, z, hi, hsz, hbt, hz, hzz, hzs⟩ := te.info
        obtain ⟨n, rfl⟩ : ∃ n : Nat, k = (n : Int) := ⟨k.toNat, by omega⟩
        cases hx
        rw [Int.toNat_natCast] at h hle hleaf
        have hrel : AVsRel φ (tile (tt el).zero n) (Builtin.zeroCells z.cells n).toList := by
          have := zero_tile (φ := φ) (n := n) hzs h0
          rw [← hzz]
          unfold Builtin.zeroCells
          rw [hzs] at this ⊢
          exact this
        exact appTo_ok (news := (Builtin.zeroCells z.cells n).toList) ht te hr hs ⟨SrcG.ofZeros htn hi hz hsz hzs h0 (leaves_one1 _ hleaf hrel) (by rw [hbt]; exact hle) (by omega), show ACRel N φ w (tt el).size n _ (.cells (tile (tt el).zero n)) from hrel⟩ h
      | _ => rw [hkx] at h; exact h.elim
    | _ => rw [hux] at h; exact h.elim
  | _ => rw [hu] at h; exact h.elim
end Go.Eng

set_option autoImplicit false
namespace Go.Eng
open Go Go.RowKit

theorem storeFlat_ok {P : Program} {N : NB} {id r rs : Nat} {p : Pl} {φ : Phi} (h0 : 0 < rs) (hrs : p.rs = rs) (hp : φ id = some (some p)) (hps : p.spot = none) (l : List AV) : ∀ {zs : List Value} (_ : AVsRel φ l zs) (i : Nat) {M : Mem} {w : World} (_ : Rep N φ M w)
    {Q : Mem → Prop} {Qp : AV → Mem → Prop} (_ : (storeFlat id r rs l M i).holds Q Qp),
    ∃ w' M', (Go.storeCells (p.at r 0) zs i).run P w = .ok () w' ∧ Q M' ∧ Rep N φ M' w' ∧ Ext φ M w φ M' w' := by
  induction l with
  | nil => intro zs hz i M w hr Q Qp h; cases hz; exact ⟨w, M, rfl, h, hr, .refl _ _ _⟩
  | cons x l ih =>
    intro zs hz i M w hr Q Qp h
    cases hz with
    | cons hx ht =>
      rename_i z zs
      have h' : ((storeCell M id (r + i / rs) (i % rs) x).bind fun M => storeFlat id r rs l M (i + 1)).holds Q Qp := h
      rw [T.holds_bind] at h'
      obtain ⟨hrun, M1, hq, hr1, he1⟩ := storeCell_ok (P := P) hr hp hx h'
      obtain ⟨w2, M2, hrun2, hq2, hr2, he2⟩ := ih ht (i + 1) hr1 hq
      refine ⟨w2, M2, ?_, hq2, hr2, he1.trans he2⟩
      have ea : p.at (r + i / rs) (i % rs) = p.at r (0 + i) := by
        unfold Pl.at
        rw [hrs]
        have := Nat.div_add_mod i rs
        rw [Nat.add_mul, Nat.mul_comm (i / rs)]
        congr 2
        omega
      rw [ea] at hrun
      rw [Go.storeCells]
      simp only [at_add p hps, Sem.run_bind, hrun, Result.andThen_ok]
      rw [ea] at hrun2
      exact hrun2
theorem minN_eq (m n : Nat) : minN m n = Nat.min m n := by
  unfold minN
  rw [bif2_eq]
  by_cases h : m ≤ n
  · rw [if_pos (Nat.ble_eq_true_of_le h)]; exact (Nat.min_eq_left h).symm
  · rw [if_neg (fun e => h (Nat.le_of_ble_eq_true e))]; exact (Nat.min_eq_right (by omega)).symm
theorem copySrc_ok {P : Program} {tx : Und} {ti : TI} {N : NB} {φ : Phi} {M : Mem} {w : World} (hr : Rep N φ M w) {x : AV} {y : Value} (hx : AVRel φ x y) {n : Nat} {f : Nat → List AV → T (AV × Mem)}
    {Q : AV × Mem → Prop} {Qp : AV → Mem → Prop} (h : (copySrc tx ti M n x f).holds Q Qp) :
    ∃ k l vs m, (f k l).holds Q Qp ∧ (Builtin.lenOf y).run P w = .ok m w ∧ Nat.min m n = k ∧ (Builtin.firstCells ti.size k y).run P w = .ok vs.toArray w ∧ (0 < ti.size → AVsRel φ l vs) ∧ (k = 0 → l = [] ∧ vs = []) := by
  unfold copySrc at h
  cases tx with
  | sl e =>
    cases hx with
    | v =>
      obtain ⟨rfl, h⟩ := nilSl_ok (show (nilSl y (f 0 [])).holds Q Qp from h)
      exact ⟨0, [], [], 0, h, rfl, Nat.min_eq_left (Nat.zero_le _), run_firstCells_none w ti.size 0 0 0, fun _ => .nil, fun _ => ⟨rfl, rfl⟩⟩
    | e A cc => exact ⟨0, [], [], 0, h, rfl, Nat.min_eq_left (Nat.zero_le _), run_firstCells_some w ti.size 0 A 0 cc [] (by simp) (by simp), fun _ => .nil, fun _ => ⟨rfl, rfl⟩⟩
    | sl id r m cap pl cc hp h0 hcap hle hk hss =>
      obtain ⟨h, hrs⟩ := rsIs_ok hr (show (rsIs M id ti.size (acOf (M.get id) r (minN m n) fun c => onO (gatherA ti.size (minN m n) c) fun l => f (minN m n) l)).holds Q Qp from h)
      have h0' : pl = none → minN m n = 0 := fun e => by rw [minN_eq, h0 e]; exact Nat.min_eq_left (Nat.zero_le _)
      obtain ⟨c, vs, h, hl, hrel, hone, hcells⟩ := acOf_ok hr hp hrs h0' h
      obtain ⟨l, hg, h⟩ := onO_ok h
      refine ⟨minN m n, l, vs, m, h, rfl, (minN_eq m n).symm, ?_, fun hz => gatherA_ok hz hl hrel hg, fun e => ?_⟩
      · cases pl with
        | none =>
          have e := h0' rfl
          rw [e] at hl ⊢
          have : vs = [] := List.length_eq_zero_iff.1 (by rw [hl]; simp)
          subst this
          exact run_firstCells_none w ti.size 0 m cc
        | some p => exact run_firstCells_some w ti.size _ _ m cc vs hl (hcells p rfl)
      · rw [e] at hl hrel hg
        have hv : vs = [] := List.length_eq_zero_iff.1 (by rw [hl]; simp)
        subst hv
        cases c with
        | cells l' =>
          have hg : some l' = some l := hg
          cases hg
          cases hrel
          exact ⟨rfl, rfl⟩
        | cols m' cols =>
          have hg : avL ti.size cols (0 * ti.size) 0 = some l := hg
          rw [Nat.zero_mul] at hg
          have hg : some [] = some l := hg
          cases hg; exact ⟨rfl, rfl⟩
    | _ => exact h.elim
  | str =>
    obtain ⟨b, rfl, h⟩ := onS_ok (show (onS x fun b => .br (Nat.beq ti.size 1) (f (minN b.size n) (((bytesCol b).take (minN b.size n)).map (.i .u8))) .fail).holds Q Qp from h)
    cases hx
    obtain ⟨h1, h⟩ := br_ok h
    have h1 : ti.size = 1 := Nat.eq_of_beq_eq_true h1
    have hle : minN b.size n ≤ b.size := by rw [minN_eq]; exact Nat.min_le_left _ _
    generalize hk : minN b.size n = k at *
    refine ⟨k, _, (b.data.toList.take k).map (fun b => Value.int .u8 b.toNat), b.size, h, rfl, by rw [← hk, minN_eq], ?_, fun _ => ?_, fun e => by rw [e]; exact ⟨rfl, rfl⟩⟩
    · show (pure ((b.extract 0 k).data.map fun b => Value.int .u8 b.toNat) : Sem (Array Value)).run P w = _
      rw [Sem.run_pure]
      congr 1
      apply Array.ext'
      rw [Array.toList_map]
      congr 1
      simp
    · unfold bytesCol
      rw [← List.map_take, List.map_map]
      exact AVsRel.map _ _ _ fun x _ => .i _ _
  | _ => exact h.elim
theorem run_copy {P : Program} {w w' : World} {t el tx ty : TypeId} {sz m n c k : Nat} {base : Option Addr} {y : Value} {vs : List Value} (ht : P.underlying t = some (.slice el)) (hs : (sizeOf el).run P w = .ok sz w) (h1 : (Builtin.lenOf y).run P w = .ok m w) (hk : Nat.min m n = k)
    (h2 : (Builtin.firstCells sz k y).run P w = .ok vs.toArray w) (h3 : ∀ a, base = some a → (Go.storeCells a vs).run P w = .ok () w') (h4 : base = none → w' = w) :
    (Builtin.copy_ #[t, tx] ty #[.slice base n c, y]).run P w = .ok (.int .i64 k) w' := by
  subst hk
  unfold Builtin.copy_
  cases base with
  | none =>
    have := h4 rfl; subst this
    simp [run_underlying ht, h1, hs, h2, goInt]
  | some a =>
    have := h3 a rfl
    simp [run_underlying ht, h1, hs, h2, this, goInt]
theorem evCopy_ok {P : Program} {tt : TT} (tok : TTok P tt) {N : NB} {φ : Phi} {M : Mem} {w : World} (hr : Rep N φ M w) {t tx ty : TypeId} {s x : AV} {sv y : Value} (hs : AVRel φ s sv) (hx : AVRel φ x y)
    {Q : AV × Mem → Prop} {Qp : AV → Mem → Prop} (h : (evCopy tt M t tx s x).holds Q Qp) : ∃ z w', (Builtin.copy_ #[t, tx] ty #[sv, y]).run P w = .ok z w' ∧ Good N φ M w Q z w' := by
  unfold evCopy at h
  cases hu : (tt t).u with
  | sl el =>
    rw [hu] at h
    have ht := (tok t (by rw [hu]; simp)).und
    rw [hu] at ht
    have ht : P.underlying t = some (.slice el) := ht
    obtain ⟨hb, h⟩ := onK_both (show (onK (tt el).u (onK (tt tx).u .fail (copyDst (tt tx).u (tt el) M s x)) (onK (tt tx).u .fail (copyDst (tt tx).u (tt el) M s x))).holds Q Qp from h)
    have te := tok el hb
    rcases onK_ok h with ⟨_, _, h⟩ | ⟨hbx, _, h⟩
    · exact h.elim
    have hsz : (sizeOf el).run P w = .ok (tt el).size w := run_sizeOf' te w
    unfold copyDst at h
    cases hs with
    | v =>
      obtain ⟨e, h'⟩ := nilSl_ok (show (nilSl sv (copySrc (tt tx).u (tt el) M 0 x fun _ _ => .ret (.i .i64 0, M))).holds Q Qp from h)
      clear h
      subst e
      obtain ⟨k, l, vs, m, h, h1, hk, h2, _, _⟩ := copySrc_ok (P := P) hr hx h'
      have : k = 0 := by rw [← hk]; exact Nat.min_eq_right (Nat.zero_le _)
      subst this
      exact ⟨_, w, run_copy ht hsz h1 hk h2 (fun a e => by cases e) (fun _ => rfl), .here hr h (.i _ _)⟩
    | e A cc =>
      obtain ⟨k, l, vs, m, h, h1, hk, h2, hrel, hl⟩ := copySrc_ok (P := P) hr hx (show (copySrc (tt tx).u (tt el) M 0 x fun _ _ => .ret (.i .i64 0, M)).holds Q Qp from h)
      have : k = 0 := by rw [← hk]; exact Nat.min_eq_right (Nat.zero_le _)
      subst this
      have hv := (hl rfl).2
      subst hv
      exact ⟨_, w, run_copy ht hsz h1 hk h2 (fun a e => by cases e; rfl) (fun e => by cases e), .here hr h (.i _ _)⟩
    | sl id r n cap pl cc hp h0 hcap hle hk hss =>
      obtain ⟨hz, h⟩ := br_ok (show (T.br (Nat.blt 0 (tt el).size) (rsIs M id (tt el).size (copySrc (tt tx).u (tt el) M n x fun k l => copyTo M id r (tt el).size k l)) .fail).holds Q Qp from h)
      have hz : 0 < (tt el).size := Nat.le_of_ble_eq_true hz
      obtain ⟨h, hrs⟩ := rsIs_ok hr h
      obtain ⟨k, l, vs, m, h, h1, hk', h2, hrel, hl⟩ := copySrc_ok (P := P) hr hx h
      have hrel := hrel hz
      have h : ((storeFlat id r (tt el).size l M 0).bind fun M => .ret (.i .i64 (k : Int), M)).holds Q Qp := h
      rw [T.holds_bind] at h
      have hkn : k ≤ n := by rw [← hk']; exact Nat.min_le_right _ _
      by_cases hk0 : k = 0
      · obtain ⟨e1, e2⟩ := hl hk0
        subst e1 e2
        have h : Q (.i .i64 (k : Int), M) := h
        refine ⟨_, w, run_copy ht hsz h1 hk' h2 (fun a e => rfl) (fun _ => rfl), .here hr h (.i _ _)⟩
      · cases pl with
        | none => exact absurd (h0 rfl) (by omega)
        | some p =>
          obtain ⟨w', M', hrun, hq, hr', he⟩ := storeFlat_ok (P := P) hz (hrs p hp) hp (hss p rfl (by omega)) l hrel 0 hr h
          refine ⟨_, w', run_copy ht hsz h1 hk' h2 (fun a e => by cases e; exact hrun) (fun e => by cases e), φ, _, M', hq, .i _ _, hr', he⟩
    | _ => exact h.elim
  | _ => rw [hu] at h; exact h.elim
theorem evClear_ok {P : Program} {tt : TT} (tok : TTok P tt) {N : NB} {φ : Phi} {M : Mem} {w : World} (hr : Rep N φ M w) {t ty : TypeId} {ts' : Array TypeId} {zs' : Array Value} {x : AV} {y : Value} (hx : AVRel φ x y) (ht1 : ts'[0]? = some t) (hz1 : zs'[0]? = some y)
    {Q : AV × Mem → Prop} {Qp : AV → Mem → Prop} (h : (evClear tt M t x).holds Q Qp) : ∃ z w', (Builtin.clear_ ts' ty zs').run P w = .ok z w' ∧ Good N φ M w Q z w' := by
  unfold evClear at h
  cases hu : (tt t).u with
  | sl el =>
    rw [hu] at h
    have ht := (tok t (by rw [hu]; simp)).und
    rw [hu] at ht
    have ht : P.underlying t = some (.slice el) := ht
    obtain ⟨hb, h⟩ := onK_both (show (onK (tt el).u (clearSl (tt el) M x) (clearSl (tt el) M x)).holds Q Qp from h)
    have te := tok el hb
    obtain ⟨i, z, hi, hsz, hbt, hz, hzz, hzs⟩ := te.info
    have rz : (zeroValue el).run P w = .ok z w := by simp [zeroValue, typeInfo, program, Sem.run, hi, hz]
    unfold clearSl at h
    cases hx with
    | v =>
      obtain ⟨e, h'⟩ := nilSl_ok (show (nilSl y (.ret (.tup [], M))).holds Q Qp from h)
      subst e
      exact ⟨_, w, by simp [Builtin.clear_, ht1, hz1, run_underlying ht], .here hr h' (.tup _ _ .nil)⟩
    | e A cc => exact ⟨_, w, by simp [Builtin.clear_, ht1, hz1, run_underlying ht], .here hr h (.tup _ _ .nil)⟩
    | sl id r n cap pl cc hp h0 hcap hle hk hss =>
      obtain ⟨hz0, h⟩ := br_ok (show (T.br (Nat.blt 0 (tt el).size) (rsIs M id (tt el).size (.br (Nat.beq n 0) (.ret (.tup [], M)) ((storeFlat id r (tt el).size (tile (tt el).zero n) M 0).bind fun M => .ret (.tup [], M)))) .fail).holds Q Qp from h)
      have hz0 : 0 < (tt el).size := Nat.le_of_ble_eq_true hz0
      obtain ⟨⟨h1, h2⟩, hrs⟩ := rsIs_ok hr h
      by_cases hn : n = 0
      · subst hn
        have hq : Q (.tup [], M) := h1 rfl
        cases pl <;> exact ⟨_, w, by simp [Builtin.clear_, ht1, hz1, run_underlying ht], .here hr hq (.tup _ _ .nil)⟩
      · have hb : Nat.beq n 0 = false := by
          cases hb : Nat.beq n 0 with
          | false => rfl
          | true => exact absurd (Nat.eq_of_beq_eq_true hb) hn
        have h : ((storeFlat id r (tt el).size (tile (tt el).zero n) M 0).bind fun M => .ret (.tup [], M)).holds Q Qp := h2 hb
        rw [T.holds_bind] at h
        cases pl with
        | none => exact absurd (h0 rfl) hn
        | some p =>
          have hrel : AVsRel φ (tile (tt el).zero n) (Builtin.zeroCells z.cells n).toList := by
            have := zero_tile (φ := φ) (n := n) hzs hz0
            rw [← hzz]
            unfold Builtin.zeroCells
            rw [hzs] at this ⊢
            exact this
          obtain ⟨w', M', hrun, hq, hr', he⟩ := storeFlat_ok (P := P) hz0 (hrs p hp) hp (hss p rfl (by omega)) _ hrel 0 hr h
          refine ⟨_, w', ?_, φ, _, M', hq, .tup _ _ .nil, hr', he⟩
          cases n with
          | zero => exact absurd rfl hn
          | succ n => simp [Builtin.clear_, ht1, hz1, run_underlying ht, rz, hrun]
    | _ => exact h.elim
  | _ => rw [hu] at h; exact h.elim
end Go.Eng

set_option autoImplicit false
namespace Go.Eng
open Go Go.RowKit

/-! ## More that is compared -/
def CmpSh (t : TypeId) (u v : Value) : Prop := binOp .eql t u v = (do pure (.bool (← Op.equal t u v))) ∧ binOp .neq t u v = (do pure (.bool (!(← Op.equal t u v))))
theorem cmpR_ok {P : Program} {N : NB} {φ : Phi} {M : Mem} {w : World} (hr : Rep N φ M w) {op : BinOp} {t : TypeId} {x y : Operand} {u v : Value} {r : Bool} {Q : AV × Mem → Prop} {Qp : AV → Mem → Prop} (h : (cmpR op M r).holds Q Qp)
    (hsh : CmpSh t u v) (hg : (eqGuard op t x y u v).run P w = .ok () w) (he : (Op.equal t u v).run P w = .ok r w) : ∃ z, (do eqGuard op t x y u v; binOp op t u v : Sem Value).run P w = .ok z w ∧ Good N φ M w Q z w := by
  cases op with
  | eql => exact ⟨.bool r, by simp only [Sem.run_bind, hg, Result.andThen_ok, hsh.1, he, Sem.run_pure], .here hr h (.b _)⟩
  | neq => exact ⟨.bool (!r), by simp only [Sem.run_bind, hg, Result.andThen_ok, hsh.2, he, Sem.run_pure], .here hr h (.b _)⟩
  | _ => exact h.elim

theorem eqCell_ok {P : Program} {t : TypeId} {k : CK} (hk : KindOk P t k) {φ : Phi} {w : World} {a b : AV} {u v : Value} (hu : AVRel φ a u) (hv : AVRel φ b v) {β : Type} {f : Bool → T β} {Q : β → Prop} {Qp : AV → Mem → Prop} (h : (eqCell k a b f).holds Q Qp) (d : Nat) :
    ∃ r, (Op.equalIn (d + 1) t u v).run P w = .ok r w ∧ (f r).holds Q Qp := by
  cases k with
  | int k =>
    obtain ⟨ka, x, rfl, h⟩ := onI_ok (show (onI a fun ka x => onI b fun kb y => .br (decide (ka = kb)) (f (x == y)) .fail).holds Q Qp from h)
    obtain ⟨kb, y, rfl, h⟩ := onI_ok h
    obtain ⟨e, h'⟩ := br_ok h
    clear h
    have e := of_decide_eq_true e
    subst e
    cases hu; cases hv
    exact ⟨_, run_equalIn_int w d t ka k x y hk, h'⟩
  | str =>
    obtain ⟨x, rfl, h⟩ := onS_ok (show (onS a fun x => onS b fun y => f (x.toList == y.toList)).holds Q Qp from h)
    obtain ⟨y, rfl, h⟩ := onS_ok h
    cases hu; cases hv
    exact ⟨_, run_equalIn_string w d t x y hk, h⟩
  | bool =>
    obtain ⟨x, rfl, h⟩ := onB_ok (show (onB a fun x => onB b fun y => f (x == y)).holds Q Qp from h)
    obtain ⟨y, rfl, h⟩ := onB_ok h
    cases hu; cases hv
    exact ⟨_, run_equalIn_bool' w d t x y hk, h⟩
  | _ => exact h.elim

theorem eqFs0_ok {P : Program} {tt : TT} (tok : TTok P tt) {φ : Phi} {w : World} {l m : List AV} {xs ys : Array Value} (hl : AVsRel φ l xs.toList) (hm : AVsRel φ m ys.toList) {β : Type} (d : Nat) (fds : List Field) (hn : ∀ f ∈ fds, f.name ≠ "_") :
    ∀ {k : Bool → T β} {Q : β → Prop} {Qp : AV → Mem → Prop} (_ : (eqFs0 tt l m (fds.map fun f => (f.offset, f.type, P.cellsOf f.type)) k).holds Q Qp), ∃ r, (Op.eqFields (d + 1) xs ys fds).run P w = .ok r w ∧ (k r).holds Q Qp := by
  induction fds with
  | nil => intro k Q Qp h; exact ⟨true, by simp [Op.eqFields], h⟩
  | cons f fds ih =>
    intro k Q Qp h
    have h : ((sel l f.offset).bind fun a => (sel m f.offset).bind fun b => onK (tt f.type).u .fail (eqCell (tt f.type).kind a b fun r => eqFs0 tt l m (fds.map fun f => (f.offset, f.type, P.cellsOf f.type)) fun s => k (r && s))).holds Q Qp := h
    rw [T.holds_bind] at h
    obtain ⟨a, ha, h⟩ := sel_ok h
    rw [T.holds_bind] at h
    obtain ⟨b, hb, h⟩ := sel_ok h
    rcases onK_ok h with ⟨_, _, h⟩ | ⟨hbad, hleaf, h⟩
    · exact h.elim
    have te := tok _ hbad
    obtain ⟨u, hu, hur⟩ := hl.get _ _ ha
    obtain ⟨v, hv, hvr⟩ := hm.get _ _ hb
    obtain ⟨r, hr, h⟩ := eqCell_ok (w := w) te.kind hur hvr h d
    obtain ⟨s, hs, h⟩ := ih (fun f hf => hn f (by simp [hf])) h
    have pa : (part f.type xs f.offset).run P w = .ok u w := by
      have hu : xs[f.offset]? = some u := by simpa using hu
      simp [part, run_isAgg_false te hleaf, hu]
    have pb : (part f.type ys f.offset).run P w = .ok v w := by
      have hv : ys[f.offset]? = some v := by simpa using hv
      simp [part, run_isAgg_false te hleaf, hv]
    refine ⟨r && s, ?_, h⟩
    cases r with
    | false => simp [Op.eqFields, hn f (by simp), pa, pb, hr]
    | true => simp [Op.eqFields, hn f (by simp), pa, pb, hr, hs]

theorem eqFs_ok {P : Program} {tt : TT} (tok : TTok P tt) {φ : Phi} {w : World} {l m : List AV} {xs ys : Array Value} (hl : AVsRel φ l xs.toList) (hm : AVsRel φ m ys.toList) {β : Type} (d : Nat) (fds : List Field) (hn : ∀ f ∈ fds, f.name ≠ "_") :
    ∀ {k : Bool → T β} {Q : β → Prop} {Qp : AV → Mem → Prop} (_ : (eqFs tt l m (fds.map fun f => (f.offset, f.type, P.cellsOf f.type)) k).holds Q Qp), ∃ r, (Op.eqFields (d + 2) xs ys fds).run P w = .ok r w ∧ (k r).holds Q Qp := by
  induction fds with
  | nil => intro k Q Qp h; exact ⟨true, by simp [Op.eqFields], h⟩
  | cons f fds ih =>
    intro k Q Qp h
    have h : (onK (tt f.type).u
      (onSt (tt f.type).u fun gs => .br (tt f.type).cmp (eqFs0 tt ((l.drop f.offset).take (P.cellsOf f.type)) ((m.drop f.offset).take (P.cellsOf f.type)) gs fun r => eqFs tt l m (fds.map fun f => (f.offset, f.type, P.cellsOf f.type)) fun s => k (r && s)) .fail)
      ((sel l f.offset).bind fun a => (sel m f.offset).bind fun b => eqCell (tt f.type).kind a b fun r => eqFs tt l m (fds.map fun f => (f.offset, f.type, P.cellsOf f.type)) fun s => k (r && s))).holds Q Qp := h
    rcases onK_ok h with ⟨hbad, hag, h⟩ | ⟨hbad, hleaf, h⟩
    · obtain ⟨gs, hst, h⟩ := onSt_ok h
      obtain ⟨hc, h⟩ := br_ok h
      have te := tok _ hbad
      obtain ⟨c1, c2, c3⟩ := te.cmp hc
      have hun := te.und
      rw [hst] at hun
      obtain ⟨gds, hg, hgs, _⟩ := hun
      rw [hgs] at h
      have hsz := cellsOf_eq te
      have hl' : AVsRel φ ((l.drop f.offset).take (P.cellsOf f.type)) (xs.extract f.offset (f.offset + (tt f.type).size)).toList := by
        have := (hl.drop f.offset).take (P.cellsOf f.type)
        rw [hsz] at this ⊢
        simpa [Array.toList_extract, List.extract_eq_drop_take] using this
      have hm' : AVsRel φ ((m.drop f.offset).take (P.cellsOf f.type)) (ys.extract f.offset (f.offset + (tt f.type).size)).toList := by
        have := (hm.drop f.offset).take (P.cellsOf f.type)
        rw [hsz] at this ⊢
        simpa [Array.toList_extract, List.extract_eq_drop_take] using this
      obtain ⟨r, hr, h⟩ := eqFs0_ok (P := P) (w := w) tok hl' hm' d gds.toList (c3 gds hg) h
      have hfo : P.fieldsOf f.type = gds := by simp [Program.fieldsOf, hg]
      have hr2 : (Op.equalIn (d + 2) f.type (.agg (xs.extract f.offset (f.offset + (tt f.type).size))) (.agg (ys.extract f.offset (f.offset + (tt f.type).size)))).run P w = .ok r w := by
        have := run_equalIn_struct (P := P) w (d + 1) f.type (xs.extract f.offset (f.offset + (tt f.type).size)) (ys.extract f.offset (f.offset + (tt f.type).size)) (by rw [hfo]; exact hg) c1
        rw [hfo, hr] at this
        exact this
      obtain ⟨s, hs, h⟩ := ih (fun f hf => hn f (by simp [hf])) h
      have pa : (part f.type xs f.offset).run P w = .ok (.agg (xs.extract f.offset (f.offset + (tt f.type).size))) w := by
        simp [part, run_isAgg_true te hag, run_sizeOf' te]
      have pb : (part f.type ys f.offset).run P w = .ok (.agg (ys.extract f.offset (f.offset + (tt f.type).size))) w := by
        simp [part, run_isAgg_true te hag, run_sizeOf' te]
      refine ⟨r && s, ?_, h⟩
      cases r with
      | false => simp [Op.eqFields, hn f (by simp), pa, pb, hr2]
      | true => simp [Op.eqFields, hn f (by simp), pa, pb, hr2, hs]
    rw [T.holds_bind] at h
    obtain ⟨a, ha, h⟩ := sel_ok h
    rw [T.holds_bind] at h
    obtain ⟨b, hb, h⟩ := sel_ok h
    have te := tok _ hbad
    obtain ⟨u, hu, hur⟩ := hl.get _ _ ha
    obtain ⟨v, hv, hvr⟩ := hm.get _ _ hb
    obtain ⟨r, hr, h⟩ := eqCell_ok (w := w) te.kind hur hvr h (d + 1)
    obtain ⟨s, hs, h⟩ := ih (fun f hf => hn f (by simp [hf])) h
    have pa : (part f.type xs f.offset).run P w = .ok u w := by
      have hu : xs[f.offset]? = some u := by simpa using hu
      simp [part, run_isAgg_false te hleaf, hu]
    have pb : (part f.type ys f.offset).run P w = .ok v w := by
      have hv : ys[f.offset]? = some v := by simpa using hv
      simp [part, run_isAgg_false te hleaf, hv]
    refine ⟨r && s, ?_, h⟩
    cases r with
    | false => simp [Op.eqFields, hn f (by simp), pa, pb, hr]
    | true => simp [Op.eqFields, hn f (by simp), pa, pb, hr, hs]

section
variable {P : Program} {w : World} {t : TypeId}
theorem eq_ptr {e : TypeId} (h : P.underlying t = some (.pointer e)) (d : Nat) (a : Addr) : (Op.equalIn (d + 1) t (.pointer (some a)) (.pointer none)).run P w = .ok false w ∧ (Op.equalIn (d + 1) t (.pointer none) (.pointer (some a))).run P w = .ok false w := by
  constructor <;> simp [Op.equalIn, run_underlying h]
theorem eq_sl {e : TypeId} (h : P.underlying t = some (.slice e)) (d : Nat) (x : Option Addr) (n c : Nat) : (Op.equalIn (d + 1) t (.slice x n c) (.slice none 0 0)).run P w = .ok x.isNone w ∧ (Op.equalIn (d + 1) t (.slice none 0 0) (.slice x n c)).run P w = .ok x.isNone w := by
  cases x <;> constructor <;> simp [Op.equalIn, run_underlying h]
theorem eq_map {k e : TypeId} (h : P.underlying t = some (.map k e)) (d : Nat) (b : Nat) : (Op.equalIn (d + 1) t (.map (some b)) (.map none)).run P w = .ok false w ∧ (Op.equalIn (d + 1) t (.map none) (.map (some b))).run P w = .ok false w := by
  constructor <;> simp [Op.equalIn, run_underlying h]
theorem eq_fn {a b : Array TypeId} {c : Bool} (h : P.underlying t = some (.func a b c)) (d : Nat) (f : Fn) (x y : Array Value) : (Op.equalIn (d + 1) t (.func f x y) .nilFunc).run P w = .ok false w ∧ (Op.equalIn (d + 1) t .nilFunc (.func f x y)).run P w = .ok false w := by
  constructor <;> simp [Op.equalIn, run_underlying h]
theorem eq_ifc {ms : Array (String × TypeId)} (h : P.underlying t = some (.interface ms)) (d : Nat) (s : TypeId) (x : Value) : (Op.equalIn (d + 1) t (.iface s x) .nilIface).run P w = .ok false w ∧ (Op.equalIn (d + 1) t .nilIface (.iface s x)).run P w = .ok false w := by
  constructor <;> simp [Op.equalIn, run_underlying h]
end
theorem nilA_ok {P : Program} {t : TypeId} {ti : TI} (hti : TIok P t ti) {N : NB} {φ : Phi} {M : Mem} {w : World} (hr : Rep N φ M w) {a : AV} {u v : Value} (hu : AVRel φ a u) {β : Type} {f : Bool → T β} {Q : β → Prop} {Qp : AV → Mem → Prop} (h : (nilA M ti a v f).holds Q Qp) :
    ∃ r, (Op.equal t u v).run P w = .ok r w ∧ (Op.equal t v u).run P w = .ok r w ∧ ((∀ op x y, (eqGuard op t x y u v).run P w = .ok () w ∧ (eqGuard op t x y v u).run P w = .ok () w) ∧ CmpSh t u v ∧ CmpSh t v u) ∧ (f r).holds Q Qp := by
  have hk := hti.kind
  have hun := hti.und
  cases hu with
  | ptr id r c p hp =>
    have h : (nilPtr v (ifK ti.kind (f false) .fail .fail)).holds Q Qp := h
    unfold nilPtr at h
    split at h
    · cases hc : ti.kind <;> rw [hc] at h hk <;> first | exact h.elim | skip
      obtain ⟨e, hd⟩ := hk
      exact ⟨false, (eq_ptr hd 9999 _).1, (eq_ptr hd 9999 _).2, ⟨fun op x y => by cases op <;> exact ⟨rfl, rfl⟩, ⟨rfl, rfl⟩, ⟨rfl, rfl⟩⟩, h⟩
    · exact h.elim
  | sl id r n cap x cc hp h0 hc hle hkk hss =>
    obtain ⟨hv, h'⟩ := nilSl_ok (show (nilSl v (onUsl ti.u (nilFlag (M.get id) f))).holds Q Qp from h)
    clear h
    subst hv
    have h : (onUsl ti.u (nilFlag (M.get id) f)).holds Q Qp := h'
    clear h'
    cases hcu : ti.u <;> rw [hcu] at h hun <;> first | exact h.elim | skip
    rename_i el
    have hun : P.underlying t = some (.slice el) := hun
    have h : (nilFlag (M.get id) f).holds Q Qp := h
    refine ⟨x.isNone, ?_, ?_, ⟨fun op x y => by cases op <;> exact ⟨rfl, rfl⟩, ⟨rfl, rfl⟩, ⟨rfl, rfl⟩⟩, ?_⟩
    · have := (eq_sl (w := w) hun 9999 (x.map fun p => p.at r 0) n cc).1
      rw [Option.isNone_map] at this; exact this
    · have := (eq_sl (w := w) hun 9999 (x.map fun p => p.at r 0) n cc).2
      rw [Option.isNone_map] at this; exact this
    · have ho := hr.objs id
      unfold nilFlag at h
      cases hg : M.get id with
      | dead => rw [hg] at h; exact h.elim
      | map es cl => rw [hg] at h; exact h.elim
      | ro nil n' cols =>
        rw [hg] at h ho
        obtain ⟨_, y, hy, hn, _⟩ := ho
        rw [hp] at hy; cases hy
        rw [← hn]; exact h
      | own e rs cells =>
        rw [hg] at h ho
        obtain ⟨q, hq, _⟩ := ho
        rw [hp] at hq; cases hq
        exact h
      | vec e n' cols =>
        rw [hg] at h ho
        obtain ⟨_, q, hq, _⟩ := ho
        rw [hp] at hq; cases hq
        exact h
  | e A cc =>
    obtain ⟨hv, h'⟩ := nilSl_ok (show (nilSl v (onUsl ti.u (f false))).holds Q Qp from h)
    clear h
    subst hv
    have h : (onUsl ti.u (f false)).holds Q Qp := h'
    clear h'
    cases hcu : ti.u <;> rw [hcu] at h hun <;> first | exact h.elim | skip
    rename_i el
    have hun : P.underlying t = some (.slice el) := hun
    exact ⟨false, (eq_sl hun 9999 (some A) 0 cc).1, (eq_sl hun 9999 (some A) 0 cc).2, ⟨fun op x y => by cases op <;> exact ⟨rfl, rfl⟩, ⟨rfl, rfl⟩, ⟨rfl, rfl⟩⟩, h⟩
  | mp id p hp =>
    have h : (nilMap v (ifK ti.kind .fail (f false) .fail)).holds Q Qp := h
    unfold nilMap at h
    split at h
    · cases hc : ti.kind <;> rw [hc] at h hk <;> first | exact h.elim | skip
      obtain ⟨k, e, hd⟩ := hk
      exact ⟨false, (eq_map hd 9999 _).1, (eq_map hd 9999 _).2, ⟨fun op x y => by cases op <;> exact ⟨rfl, rfl⟩, ⟨rfl, rfl⟩, ⟨rfl, rfl⟩⟩, h⟩
    · exact h.elim
  | fn g l ca hl =>
    have h : (nilFn v (ifK ti.kind .fail .fail (f false))).holds Q Qp := h
    unfold nilFn at h
    split at h
    · cases hc : ti.kind <;> rw [hc] at h hk <;> first | exact h.elim | skip
      obtain ⟨k, e, g, hd⟩ := hk
      exact ⟨false, (eq_fn hd 9999 _ _ _).1, (eq_fn hd 9999 _ _ _).2, ⟨fun op x y => by cases op <;> exact ⟨rfl, rfl⟩, ⟨rfl, rfl⟩, ⟨rfl, rfl⟩⟩, h⟩
    · exact h.elim
  | ifc s x y hx =>
    have h : (nilIfc v (onUifc ti.u (f false))).holds Q Qp := h
    unfold nilIfc at h
    split at h
    · cases hcu : ti.u <;> rw [hcu] at h hun <;> first | exact h.elim | skip
      obtain ⟨ms, hd⟩ := hun
      exact ⟨false, (eq_ifc hd 9999 _ _).1, (eq_ifc hd 9999 _ _).2, ⟨fun op x y => by cases op <;> exact ⟨rfl, rfl⟩, ⟨rfl, rfl⟩, ⟨rfl, rfl⟩⟩, h⟩
    · exact h.elim
  | _ => exact h.elim

theorem evBin_ok {P : Program} {tt : TT} (tok : TTok P tt) {N : NB} {φ : Phi} {M : Mem} {w : World} (hr : Rep N φ M w) {op : BinOp} {t : TypeId} (ht : (tt t).u ≠ .bad) {x y : Operand} {a b : AV} {u v : Value} (hu : AVRel φ a u) (hv : AVRel φ b v)
    {Q : AV × Mem → Prop} {Qp : AV → Mem → Prop} (h : (evBin P tt M op t x y a b).holds Q Qp) : ∃ z, (do eqGuard op t x y u v; binOp op t u v : Sem Value).run P w = .ok z w ∧ Good N φ M w Q z w := by
  unfold evBin at h
  rw [bif2_eq] at h
  split at h
  · obtain ⟨c, rfl, h⟩ := onV_ok h
    cases hv
    obtain ⟨r, h1, _, h3, h⟩ := nilA_ok (tok t ht) hr hu h
    exact cmpR_ok hr h h3.2.1 (h3.1 op x y).1 h1
  rw [bif2_eq] at h
  split at h
  · obtain ⟨c, rfl, h⟩ := onV_ok h
    cases hu
    obtain ⟨r, _, h2, h3, h⟩ := nilA_ok (tok t ht) hr hv h
    exact cmpR_ok hr h h3.2.2 (h3.1 op x y).2 h2
  have plain : (retM M (binA P (tt t).kind op t x y a b)).holds Q Qp → ∃ z, (do eqGuard op t x y u v; binOp op t u v : Sem Value).run P w = .ok z w ∧ Good N φ M w Q z w := by
    intro h
    obtain ⟨z, xa, h1, h2, h3⟩ := binA_ok (w := w) tok ht (x := x) (y := y) hu hv (retM_ok h)
    exact ⟨z, h1, .here hr h2 h3⟩
  cases hu with
  | i => exact plain h
  | b => exact plain h
  | s => exact plain h
  | v => exact plain h
  | agg l xs hl =>
    obtain ⟨m, rfl, h⟩ := onAgg_ok (show (eqAgg tt t op M l b).holds Q Qp from h)
    obtain ⟨fs, hst, h⟩ := onSt_ok h
    obtain ⟨hc, h⟩ := br_ok h
    cases hv with
    | agg _ ys hm =>
      have ti := tok t ht
      obtain ⟨c1, c2, c3⟩ := ti.cmp hc
      have hun := ti.und
      rw [hst] at hun
      obtain ⟨fds, hf, hfs, _⟩ := hun
      rw [hfs] at h
      have hfo : P.fieldsOf t = fds := by simp [Program.fieldsOf, hf]
      obtain ⟨r, hrun, h⟩ := eqFs_ok (P := P) (w := w) tok hl hm 9997 fds.toList (c3 fds hf) h
      refine cmpR_ok hr h ⟨rfl, rfl⟩ (run_eqGuard_agg w op t x y xs ys c2) ?_
      have := run_equalIn_struct (P := P) w 9999 t xs ys (by rw [hfo]; exact hf) c1
      rw [hfo, hrun] at this
      exact this
  | _ => exact h.elim

/-! ## Strings and bytes -/
theorem ifU8_ok {β : Type} {k : CK} {t : T β} {Q : β → Prop} {Qp : AV → Mem → Prop} (h : (ifU8 k t).holds Q Qp) : k = .int .u8 ∧ t.holds Q Qp := by
  cases k with
  | int k => cases k <;> first | exact ⟨rfl, h⟩ | exact h.elim
  | _ => exact h.elim
theorem toBytes_ok {P : Program} {N : NB} {φ : Phi} {M : Mem} {w : World} (hr : Rep N φ M w) {s d el : TypeId} {b : ByteArray} {u : TypeDesc} (hs : P.underlying s = some u) (hd : P.underlying d = some (.slice el)) (he : P.underlying el = some (.int .u8))
    {Q : AV × Mem → Prop} {Qp : AV → Mem → Prop} (h : (toBytes M el b).holds Q Qp) : ∃ z w', (convert s d (.string b)).run P w = .ok z w' ∧ Good N φ M w Q z w' := by
  refine ⟨_, _, Lib.run_convert_string_bytes w s d el b hs hd he, ?_⟩
  have hge := grownCap_ge w b.size 0 el
  have hbl : b.data.toList.length = b.size := by rw [Array.length_toList]; rfl
  have hsz : (Lib.bytesCells w el b).size = grownCap w b.size 0 el := by
    simp only [Lib.bytesCells, Array.size_append, Array.size_map, Array.size_replicate]
    have : b.data.size = b.size := rfl
    omega
  let p : Pl := ⟨w.heap.size, 0, 1, grownCap w b.size 0 el, none⟩
  have hf := (hr.fresh M.next (Nat.le_refl _)).2
  have hlen : (bytesCol b).length = b.size := by unfold bytesCol; rw [List.length_map, Array.length_toList]; rfl
  -- the block is laid, then marked behind its end
  have hlaid : ∀ (w' : World), w'.heap.size = w.heap.size + 1 → (∀ k, k < w.heap.size → w'.heap[k]? = w.heap[k]?) → w'.os = w.os → w'.tape = w.tape → w'.output = w.output →
      ObjRel N (updP φ M.next (some p)) w' M.next (.vec el b.size [.ci .u8 (bytesCol b)]) →
      Rep N (updP φ M.next (some p)) (M.new (.vec el b.size [.ci .u8 (bytesCol b)])) w' ∧ Ext φ M w (updP φ M.next (some p)) (M.new (.vec el b.size [.ci .u8 (bytesCol b)])) w' := by
    intro w' h1 h2 h3 h4 h5 hob
    have hle := updP_le (some p) hf
    have own : ∀ id q, isOwn ((M.new (.vec el b.size [.ci .u8 (bytesCol b)])).get id) → updP φ M.next (some p) id = some (some q) → (id = M.next ∧ q = p) ∨ (id ≠ M.next ∧ isOwn (M.get id) ∧ φ id = some (some q)) := by
      intro id q ho hq
      simp only [Mem.get_new] at ho
      by_cases e : id = M.next
      · subst e; left; simpa using hq.symm
      · right
        rw [if_neg e] at ho
        exact ⟨e, ho, by simpa [updP, e] using hq⟩
    have hpb : p.b = w.heap.size := rfl
    refine ⟨⟨fun id => ?_, fun id id' q q' ho1 ho' hq hq' e => ?_, fun id q ho1 hq => ?_, fun id hid => ?_, ?_⟩, ⟨hle, fun _ h => updP_lt _ h, by simp, rfl, h3, h4, h5, by omega, fun k hk _ => h2 k hk, fun id q ho1 hq hlt => ?_⟩⟩
    · simp only [Mem.get_new]
      split
      · rename_i e; subst e; exact hob
      · exact (hr.objs id).step hle (fun k hk => h2 k (Nat.lt_of_lt_of_le hk hr.size)) (fun ho1 q hq => h2 _ (hr.lt id q ho1 hq))
    · rcases own id q ho1 hq with ⟨rfl, rfl⟩ | ⟨k1, k2, k3⟩ <;> rcases own id' q' ho' hq' with ⟨rfl, rfl⟩ | ⟨k4, k5, k6⟩
      · rfl
      · have := hr.lt id' q' k5 k6; omega
      · have := hr.lt id q k2 k3; omega
      · exact hr.sep id id' q q' k2 k5 k3 k6 e
    · rcases own id q ho1 hq with ⟨rfl, rfl⟩ | ⟨k1, k2, k3⟩
      · rw [hpb]; exact hr.size
      · exact hr.high id q k2 k3
    · simp only [Mem.next_new] at hid
      have hne : id ≠ M.next := by omega
      simp only [Mem.get_new, if_neg hne]
      obtain ⟨k1, k2⟩ := hr.fresh id (by omega)
      exact ⟨k1, by simp [updP, hne, k2]⟩
    · have := hr.size; omega
    · rcases own id q ho1 hq with ⟨rfl, rfl⟩ | ⟨k1, k2, k3⟩
      · omega
      · exact ⟨id, q, k2, k3, rfl, fun h => h⟩
  have key := hlaid (Lib.bytesWorld w el b) (Lib.bytesWorld_size w el b) (fun k hk => Lib.bytesWorld_at_old w el b k hk) rfl rfl rfl (by
    refine ⟨fun c col hc => ?_, p, updP_self .., ⟨rfl, rfl⟩, rfl, ⟨_, _, Lib.bytesWorld_at_new w el b, by rw [hsz]; simp [p], .inr (by rw [hsz]; simp [p])⟩, hge, fun j hj c col hc => ?_⟩
    · cases c with
      | zero => simp at hc; subst hc; exact hlen
      | succ c => simp at hc
    · cases c with
      | succ c => simp at hc
      | zero =>
        simp at hc; subst hc
        refine ⟨.int .u8 (b.data.toList.getD j 0).toNat, ?_, ?_⟩
        · have := Lib.bytesWorld_cell w el b j hj
          rw [at_eq p rfl]
          simpa [p] using this
        · have := ColRel.ci (N := N) (w := Lib.bytesWorld w el b) .u8 (bytesCol b) j
          have hj' : j < b.data.toList.length := by omega
          rw [getD_of (x := ((b.data.toList[j]).toNat : Int)) (by simp only [bytesCol, List.getElem?_map, List.getElem?_eq_getElem hj', Option.map_some])] at this
          rw [getD_of (List.getElem?_eq_getElem hj')]
          exact this)
  refine ⟨_, _, _, h, ?_, key.1, key.2⟩
  have := AVRel.sl (φ := updP φ M.next (some p)) M.next 0 b.size none _ (grownCap w b.size 0 el) (updP_self ..) (fun h => by cases h) (fun c h => by cases h) hge (fun q h => by cases h; simp [p]) (fun q h _ => by cases h; rfl)
  simpa [Pl.at, p] using this
theorem ofBytes_ok {P : Program} {N : NB} {φ : Phi} {M : Mem} {w : World} (hr : Rep N φ M w) {s d el : TypeId} {ti : TI} (hs : P.underlying s = some (.slice el)) (hd : P.underlying d = some .string) (he : P.underlying el = some (.int .u8)) {id r n : Nat} {cap : Option Nat} {y : Value} (hx : AVRel φ (.sl id r n cap) y)
    {Q : AV × Mem → Prop} {Qp : AV → Mem → Prop} (h : (ofBytes ti M id r n).holds Q Qp) : ∃ z w', (convert s d y).run P w = .ok z w' ∧ Good N φ M w Q z w' := by
  obtain ⟨h1, h⟩ := br_ok h
  have h1 : ti.size = 1 := Nat.eq_of_beq_eq_true h1
  obtain ⟨h, hrs⟩ := rsIs_ok hr h
  cases hx with
  | sl _ _ _ _ x cc hp h0 hcap hle hk hss =>
    obtain ⟨c, vs, h2, hl, hrel, hone, hcells⟩ := acOf_ok hr hp hrs h0 h
    obtain ⟨c', hc', h3⟩ := onO_ok h2
    obtain ⟨l, hl', h5⟩ := onO_ok h3
    clear h h2 h3
    have hrel := normC_ok hrel hc'
    have hc2 : ∃ m, c' = .cols m [.ci .u8 l] := by
      unfold u8col at hl'
      split at hl'
      · cases hl'; exact ⟨_, rfl⟩
      · cases hl'
    obtain ⟨m, rfl⟩ := hc2
    obtain ⟨rfl, hlen, hcols⟩ := hrel
    have hll : l.length = m := hlen 0 _ rfl
    have hvs : vs = l.map (Value.int .u8) := by
      apply List.ext_getElem?
      intro j
      by_cases hj : j < m
      · obtain ⟨z, hz, hzr⟩ := hcols j hj 0 _ rfl
        rw [h1] at hz
        simp only [Nat.mul_one, Nat.add_zero] at hz
        rw [hz, List.getElem?_map, List.getElem?_eq_getElem (by omega)]
        cases hzr
        rw [getD_of (List.getElem?_eq_getElem (by omega))]; rfl
      · rw [List.getElem?_eq_none (by rw [hl, h1]; omega), List.getElem?_eq_none (by rw [List.length_map]; omega)]
    have hfold : ∀ (l : List Int) (r : ByteArray), l.foldl (fun r n => r.push (UInt8.ofNat n.toNat)) r = ⟨r.data ++ (l.map fun n => UInt8.ofNat n.toNat).toArray⟩ := by
      intro l
      induction l with
      | nil => intro r; simp
      | cons a l ih => intro r; simp only [List.foldl_cons]; rw [ih]; simp [ByteArray.push]
    have hstr : l.foldl (fun r n => r.push (UInt8.ofNat n.toNat)) ByteArray.empty = strOf l := by
      rw [hfold, show ByteArray.empty.data = #[] from rfl]
      simp [strOf]
    cases x with
    | none =>
      have := h0 rfl
      subst this
      have hl0 : l = [] := List.length_eq_zero_iff.1 hll
      subst hl0
      refine ⟨.string .empty, w, ?_, .here hr h5 (.s _)⟩
      rw [Option.map_none, run_convert_bytes_string w s d el none 0 cc hs he hd]
      simp [Conv.bytesToString]
    | some p =>
      refine ⟨.string (strOf l), w, ?_, .here hr h5 (.s _)⟩
      rw [Option.map_some, run_convert_bytes_string w s d el _ m cc hs he hd]
      have hld := run_loadCells_list (P := P) w (p.at r 0) vs (hcells p rfl)
      rw [hl, h1, Nat.mul_one, hvs] at hld
      rw [run_bytesToString w (p.at r 0) m cc l hld, hstr]

/-- A row gets the run-time's mark. -/
theorem markSl_ok {P : Program} {N : NB} {φ : Phi} {M : Mem} {w : World} (hr : Rep N φ M w) {s el : TypeId} (hs : P.underlying s = some (.slice el)) (he : P.underlying el = some (.int .u8)) {id r n : Nat} {cap : Option Nat} {y : Value} (hx : AVRel φ (.sl id r n cap) y)
    {Q : AV × Mem → Prop} {Qp : AV → Mem → Prop} (h : (markSl M id r n cap).holds Q Qp) : ∃ z w', (convert s s y).run P w = .ok z w' ∧ Good N φ M w Q z w' := by
  have hkey : Q (.sl id r n cap, M) ∧ M.lock ≤ id ∧ ∃ p e k, φ id = some (some p) ∧ isOwn (M.get id) ∧ OwnBlock w p.b e k := by
    have ho := hr.objs id
    unfold markSl at h
    cases hg : M.get id with
    | dead => rw [hg] at h; exact h.elim
    | map es cl => rw [hg] at h; exact h.elim
    | ro => rw [hg] at h; exact h.elim
    | own e rs cells =>
      rw [hg] at h ho
      obtain ⟨h1, h2⟩ := br_ok h
      obtain ⟨p, hp, _, _, hb, _⟩ := ho
      exact ⟨h2, Nat.le_of_ble_eq_true h1, p, _, _, hp, trivial, hb⟩
    | vec e m cols =>
      rw [hg] at h ho
      obtain ⟨h1, h2⟩ := br_ok h
      obtain ⟨_, p, hp, _, _, hb, _⟩ := ho
      exact ⟨h2, Nat.le_of_ble_eq_true h1, p, _, _, hp, trivial, hb⟩
  obtain ⟨hq, hl, p, e, k, hp, hown, hblk⟩ := hkey
  cases hx with
  | sl _ _ _ _ x cc hpx h0 hcap hle hk hss =>
    rw [hp] at hpx; cases hpx
    have hblk0 := hblk
    obtain ⟨cur, ⟨lo, hi⟩, hcur, hsz, hfz⟩ := hblk
    have hsh : w.shape? p.b = some (e, cur.size) := by simp [World.shape?, hcur]
    let w' := w.freeze ⟨p.b, cur.size, none⟩ 1
    have hheap : ∀ b, w'.heap[b]? = if b = p.b then some (.cells cur e (if lo == hi then (cur.size, cur.size + 1) else (min lo cur.size, max hi (cur.size + 1)))) else w.heap[b]? := by
      intro b
      show (w.freeze ⟨p.b, cur.size, none⟩ 1).heap[b]? = _
      unfold World.freeze
      rw [if_neg (by decide)]
      simp only [Array.getElem?_modify]
      by_cases hb : b = p.b
      · subst hb; simp [hcur]
      · rw [if_neg (Ne.symm hb), if_neg hb]
    have hcell : ∀ a, w'.cell? a = w.cell? a := by
      intro a
      simp only [World.cell?, hheap]
      by_cases hb : a.block = p.b
      · rw [if_pos hb, hb, hcur]
      · rw [if_neg hb]
    have hownb : ∀ b e' k', OwnBlock w b e' k' → OwnBlock w' b e' k' := by
      intro b e' k' ⟨c', f', h1, h2, h3⟩
      by_cases hb : b = p.b
      · subst hb
        rw [hcur] at h1
        cases h1
        refine ⟨cur, _, by rw [hheap, if_pos rfl], h2, .inr ?_⟩
        rcases h3 with h3 | h3
        · cases h3; simp [h2]
        · simp only at h3
          split
          · simp [h2]
          · simp only; omega
      · exact ⟨c', f', by rw [hheap, if_neg hb]; exact h1, h2, h3⟩
    have hN := hr.high id p hown hp
    have hsame : SameBelow N w w' := fun b hb => by rw [hheap, if_neg (by omega)]
    refine ⟨.slice (some (p.at r 0)) n cc, w', ?_, φ, .sl id r n cap, M, hq, .sl id r n cap (some p) cc hp h0 hcap hle hk hss, ⟨fun j => ?_, hr.sep, hr.high, hr.fresh, ?_⟩, ⟨.refl _, fun _ _ => rfl, Nat.le_refl _, rfl, ?_, ?_, ?_, ?_, fun b hb hno => ?_, fun j q h1 h2 _ => ⟨j, q, h1, h2, rfl, fun h => h⟩⟩⟩
    · simp [convert, run_underlying hs, run_underlying he, markStringish, Pl.at, hsh]
      rfl
    · have ho := hr.objs j
      cases hg : M.get j with
      | dead => exact hr.glob.same hsame
      | ro nil m cols =>
        rw [hg] at ho
        exact ho.step (.refl _) hsame (fun h => h.elim)
      | own e' rs cells =>
        rw [hg] at ho
        obtain ⟨q, k1, k2, k3, k4, k5, k6⟩ := ho
        refine ⟨q, k1, k2, k3, hownb _ _ _ k4, k5, fun i a ha => ?_⟩
        obtain ⟨z, hz, hzr⟩ := k6 i a ha
        exact ⟨z, (hcell _).trans hz, hzr⟩
      | vec e' m cols =>
        rw [hg] at ho
        obtain ⟨k0, q, k1, k2, k3, k4, k5, k6⟩ := ho
        refine ⟨k0, q, k1, k2, k3, hownb _ _ _ k4, k5, fun i hi c col hc => ?_⟩
        obtain ⟨z, hz, hzr⟩ := k6 i hi c col hc
        exact ⟨z, (hcell _).trans hz, hzr.same hsame⟩
      | map es cl =>
        rw [hg] at ho
        obtain ⟨q, k1, k2, k3⟩ := ho
        refine ⟨q, k1, k2, ?_⟩
        rw [hheap, if_neg]
        · exact k3
        · intro hb; rw [hb, hcur] at k3; cases k3
    · show N.n ≤ (w.freeze _ 1).heap.size
      have := hr.size
      simpa [World.freeze] using this
    · show (w.freeze _ 1).os = w.os; simp [World.freeze]
    · show (w.freeze _ 1).tape = w.tape; simp [World.freeze]
    · show (w.freeze _ 1).output = w.output; simp [World.freeze]
    · show w.heap.size ≤ (w.freeze _ 1).heap.size; simp [World.freeze]
    · rw [hheap, if_neg]
      intro e; exact hno id p hl hown hp e.symm

theorem onUslE_ok {β : Type} {u : Und} {f : TypeId → T β} {Q : β → Prop} {Qp : AV → Mem → Prop} (h : (onUslE u f).holds Q Qp) : ∃ el, u = .sl el ∧ (f el).holds Q Qp := by
  cases u <;> first | exact h.elim | exact ⟨_, rfl, h⟩
theorem evConv_ok {P : Program} {tt : TT} (tok : TTok P tt) {N : NB} {φ : Phi} {M : Mem} {w : World} (hr : Rep N φ M w) {s d : TypeId} (hd : (tt d).u ≠ .bad) (hs : ∃ e, P.underlying s = some e) {x : AV} {y : Value} (hx : AVRel φ x y)
    {Q : AV × Mem → Prop} {Qp : AV → Mem → Prop} (h : (evConv P tt M s d x).holds Q Qp) : ∃ z w', (convert s d y).run P w = .ok z w' ∧ Good N φ M w Q z w' := by
  have plain : (retM M (convA P (tt d) s d x)).holds Q Qp → ∃ z w', (convert s d y).run P w = .ok z w' ∧ Good N φ M w Q z w' := by
    intro h
    obtain ⟨z, xa, h1, h2, h3⟩ := convA_ok (w := w) tok hd hs hx (retM_ok h)
    exact ⟨z, w, h1, .here hr h2 h3⟩
  cases hx with
  | i => exact plain h
  | b => exact plain h
  | v => exact plain h
  | s b =>
    have hun := (tok d hd).und
    have h : (@Und.casesOn (fun _ => T (AV × Mem)) (tt d).u (fun el => onK (tt el).u .fail (ifU8 (tt el).kind (toBytes M el b))) (fun _ _ => .fail) (fun _ => .fail) (retM M (convA P (tt d) s d (.s b))) .fail .fail .fail).holds Q Qp := h
    cases hu : (tt d).u with
    | sl el =>
      rw [hu] at h hun
      rcases onK_ok h with ⟨_, _, h⟩ | ⟨hb, _, h⟩
      · exact h.elim
      obtain ⟨hk, h⟩ := ifU8_ok h
      have hk' := (tok el hb).kind
      rw [hk] at hk'
      obtain ⟨u, hs⟩ := hs
      exact toBytes_ok hr hs hun hk' h
    | str => rw [hu] at h; exact plain h
    | _ => rw [hu] at h; exact h.elim
  | sl id r n cap pl cc hp h0 hc hle hk hss =>
    have hun := (tok d hd).und
    have h : (@Und.casesOn (fun _ => T (AV × Mem)) (tt d).u (fun el => .br (Nat.beq s d) (onK (tt el).u .fail (ifU8 (tt el).kind (markSl M id r n cap))) .fail) (fun _ _ => .fail) (fun _ => .fail) (onUslE (tt s).u fun el => onK (tt el).u .fail (ifU8 (tt el).kind (ofBytes (tt el) M id r n))) .fail .fail .fail).holds Q Qp := h
    cases hu : (tt d).u with
    | str =>
      rw [hu] at h hun
      obtain ⟨el, hus, h⟩ := onUslE_ok h
      rcases onK_ok h with ⟨_, _, h⟩ | ⟨hb, _, h⟩
      · exact h.elim
      obtain ⟨hk', h⟩ := ifU8_ok h
      have hkk := (tok el hb).kind
      rw [hk'] at hkk
      have hsu := (tok s (by rw [hus]; simp)).und
      rw [hus] at hsu
      exact ofBytes_ok hr hsu hun hkk (.sl id r n cap pl cc hp h0 hc hle hk hss) h
    | sl el =>
      rw [hu] at h hun
      obtain ⟨hsd, h⟩ := br_ok h
      have hsd : s = d := Nat.eq_of_beq_eq_true hsd
      rcases onK_ok h with ⟨_, _, h⟩ | ⟨hb, _, h⟩
      · exact h.elim
      obtain ⟨hk', h⟩ := ifU8_ok h
      have hkk := (tok el hb).kind
      rw [hk'] at hkk
      rw [hsd]
      exact markSl_ok hr hun hkk (.sl id r n cap pl cc hp h0 hc hle hk hss) h
    | _ => rw [hu] at h; exact h.elim
  | _ => exact h.elim
end Go.Eng

set_option autoImplicit false
namespace Go.Eng
open Go Go.RowKit

theorem lenA_ok {P : Program} {tt : TT} (tok : TTok P tt) {φ : Phi} {w : World} {t ty : TypeId} (ht : (tt t).u ≠ .bad) {x : AV} {y : Value} (hx : AVRel φ x y) {Q : AV → Prop} {Qp : AV → Mem → Prop}
    (h : (lenA (tt t).u x).holds Q Qp) (ts : List TypeId) (ys : List Value) : Val P φ w Q (Builtin.len_ (t :: ts).toArray ty (y :: ys).toArray) := by
  have ti := (tok t ht).und
  cases hu : (tt t).u with
  | sl el =>
    rw [hu] at h ti
    have ti : P.underlying t = some (.slice el) := ti
    cases hx with
    | v =>
      cases y <;> first | (exact h.elim) | skip
      exact ⟨_, _, by simp [Builtin.len_, run_underlying ti, goInt], h, .i _ _⟩
    | sl id r n cap x cc hp hz hc hle hk => exact ⟨_, _, by simp [Builtin.len_, run_underlying ti, goInt], h, .i _ _⟩
    | e A cc => exact ⟨_, _, by simp [Builtin.len_, run_underlying ti, goInt], h, .i _ _⟩
    | _ => exact h.elim
  | arr n el =>
    rw [hu] at h ti
    have ti : P.underlying t = some (.array n el) := ti
    exact ⟨_, _, by simp [Builtin.len_, run_underlying ti, goInt], h, .i _ _⟩
  | str =>
    rw [hu] at h ti
    have ti : P.underlying t = some .string := ti
    obtain ⟨s, rfl, h⟩ := onS_ok h
    cases hx
    exact ⟨_, _, by simp [Builtin.len_, run_underlying ti, goInt], h, .i _ _⟩
  | st fs => rw [hu] at h; exact h.elim
  | leaf => rw [hu] at h; exact h.elim
  | ifc => rw [hu] at h; exact h.elim
  | bad => exact (ht hu).elim

theorem fold2_ok {P : Program} {φ : Phi} {w : World} {f : AV → AV → T AV} {g : Value → Value → Sem Value} {Qp : AV → Mem → Prop}
    (hf : ∀ a b u v (Q : AV → Prop), AVRel φ a u → AVRel φ b v → (f a b).holds Q Qp → Val P φ w Q (g u v)) (l : List AV) : ∀ (zs : List Value) (_ : AVsRel φ l zs) (a : AV) (u : Value) (_ : AVRel φ a u) (Q : AV → Prop) (_ : (fold2 f l a).holds Q Qp),
    Val P φ w Q (zs.foldlM g u) := by
  induction l with
  | nil => intro zs hz a u hu Q h; cases hz; exact ⟨u, a, rfl, h, hu⟩
  | cons x l ih =>
    intro zs hz a u hu Q h
    cases hz with
    | cons hx ht =>
      have h' : ((f a x).bind (fold2 f l)).holds Q Qp := h
      rw [T.holds_bind] at h'
      obtain ⟨z, y, h1, h2, h3⟩ := hf _ _ _ _ _ hu hx h'
      obtain ⟨z', y', h4, h5, h6⟩ := ih _ ht y z h3 Q h2
      exact ⟨z', y', by simp [List.foldlM, h1, h4], h5, h6⟩
theorem minI_ok {P : Program} {φ : Phi} {w : World} {Qp : AV → Mem → Prop} (a b : AV) (u v : Value) (Q : AV → Prop) (hu : AVRel φ a u) (hv : AVRel φ b v) (h : (minI a b).holds Q Qp) : Val P φ w Q (Builtin.min2 u v) := by
  obtain ⟨k, x, rfl, h⟩ := onI_ok h
  obtain ⟨k', y, rfl, h⟩ := onI_ok (show (onI b fun _ y => .ret (.i k (if y < x then y else x))).holds Q Qp from h)
  cases hu; cases hv
  exact ⟨_, _, rfl, h, .i _ _⟩
theorem maxI_ok {P : Program} {φ : Phi} {w : World} {Qp : AV → Mem → Prop} (a b : AV) (u v : Value) (Q : AV → Prop) (hu : AVRel φ a u) (hv : AVRel φ b v) (h : (maxI a b).holds Q Qp) : Val P φ w Q (Builtin.max2 u v) := by
  obtain ⟨k, x, rfl, h⟩ := onI_ok h
  obtain ⟨k', y, rfl, h⟩ := onI_ok (show (onI b fun _ y => .ret (.i k (if y > x then y else x))).holds Q Qp from h)
  cases hu; cases hv
  exact ⟨_, _, rfl, h, .i _ _⟩
theorem hd?_ok {α β : Type} {l : List α} {f : α → T β} {Q : β → Prop} {Qp : AV → Mem → Prop} (h : (hd? l f).holds Q Qp) : ∃ x r, l = x :: r ∧ (f x).holds Q Qp := by
  cases l with
  | nil => exact h.elim
  | cons x r => exact ⟨x, r, rfl, h⟩
theorem ex2_ok {α β : Type} {l : List α} {f : α → α → T β} {Q : β → Prop} {Qp : AV → Mem → Prop} (h : (ex2 l f).holds Q Qp) : ∃ x y, l = [x, y] ∧ (f x y).holds Q Qp := by
  match l, h with
  | [], h => exact h.elim
  | [_], h => exact h.elim
  | [x, y], h => exact ⟨x, y, rfl, h⟩
  | _ :: _ :: _ :: _, h => exact h.elim
theorem foldA_ok {P : Program} {φ : Phi} {M : Mem} {w : World} {f : AV → AV → T AV} {g : Value → Value → Sem Value} {Q : AV × Mem → Prop} {Qp : AV → Mem → Prop}
    (hf : ∀ a b u v (Q : AV → Prop), AVRel φ a u → AVRel φ b v → (f a b).holds Q Qp → Val P φ w Q (g u v)) {l : List AV} {zs : List Value} (hz : AVsRel φ l zs) (h : (foldA f M l).holds Q Qp) :
    ∃ z zs', zs = z :: zs' ∧ Val P φ w (fun x => Q (x, M)) (zs'.foldlM g z) := by
  cases hz with
  | nil => exact h.elim
  | cons hx ht =>
    have h' : ((fold2 f _ _).bind fun v => .ret (v, M)).holds Q Qp := h
    rw [T.holds_bind] at h'
    exact ⟨_, _, rfl, fold2_ok hf _ _ ht _ _ hx _ h'⟩

/-- The functions that are called: what the tree tells is what the machine does. -/
def CallsOk (P : Program) (N : NB) (callF : FuncId → List AV → Mem → T (AV × Mem)) : Prop :=
  ∀ f args M Q Qp, (callF f args M).holds Q Qp → ((∃ fn c, P.funcs[f]? = some fn ∧ fn.body = some c ∧ (fn.name == "runtime.NumGoroutine") = false) ∧
    ∀ φ w zs, Rep N φ M w → AVsRel φ args zs → Calls P f zs.toArray w fun e w' => (∃ v, e = .returned v ∧ Good N φ M w Q v w') ∨ (∃ v, e = .panicked [{ v, recovered := false }] ∧ GoodP N φ M w Qp v w')) ∨
  (∀ φ w zs, Rep N φ M w → AVsRel φ args zs → ∃ v w', (callFunc f zs.toArray).run P w = .ok (.value v) w' ∧ Good N φ M w Q v w')

theorem builtinA_ok {P : Program} {tt : TT} (tok : TTok P tt) {N : NB} {φ : Phi} {M : Mem} {w : World} (hr : Rep N φ M w) {b : Builtin} {ts : List TypeId} {ty : TypeId} {cs : Array Bool} {l : List AV} {zs : List Value} (hz : AVsRel φ l zs)
    {Q : AV × Mem → Prop} {Qp : AV → Mem → Prop} (h : (builtinA tt M b ts l).holds Q Qp) : Out P N φ M w Q Qp (builtin b ts.toArray ty cs zs.toArray) := by
  cases b with
  | len =>
    obtain ⟨t, ts', rfl, h⟩ := hd?_ok (show (hd? ts fun t => hd? l fun x => onK (tt t).u ((lenA (tt t).u x).bind fun v => .ret (v, M)) ((lenA (tt t).u x).bind fun v => .ret (v, M))).holds Q Qp from h)
    obtain ⟨x, l', rfl, h⟩ := hd?_ok h
    obtain ⟨hb, h⟩ := onK_both h
    rw [T.holds_bind] at h
    cases hz with
    | cons hx ht => exact Out.ofVal hr (lenA_ok tok hb hx h ts' _)
  | min =>
    obtain ⟨z, zs', rfl, hv⟩ := foldA_ok (P := P) (g := Builtin.min2) (fun a b u v Q hu hv h => minI_ok a b u v Q hu hv h) hz (show (foldA minI M l).holds Q Qp from h)
    exact Out.ofVal hr (by simpa [Builtin.min_] using hv)
  | max =>
    obtain ⟨z, zs', rfl, hv⟩ := foldA_ok (P := P) (g := Builtin.max2) (fun a b u v Q hu hv h => maxI_ok a b u v Q hu hv h) hz (show (foldA maxI M l).holds Q Qp from h)
    exact Out.ofVal hr (by simpa [Builtin.max_] using hv)
  | append =>
    obtain ⟨s, x, rfl, h⟩ := ex2_ok (show (ex2 l fun s x => ex2 ts fun t tx => evAppend tt M t tx s x).holds Q Qp from h)
    obtain ⟨t, tx, rfl, h⟩ := ex2_ok h
    cases hz with
    | cons hs hz =>
      cases hz with
      | cons hx hz =>
        cases hz
        obtain ⟨z, w', h1, h2⟩ := evAppend_ok (P := P) tok hr (ty := ty) hs hx h
        exact Out.val h1 h2
  | clear =>
    obtain ⟨t, ts', rfl, h⟩ := hd?_ok (show (hd? ts fun t => hd? l fun x => evClear tt M t x).holds Q Qp from h)
    obtain ⟨x, l', rfl, h⟩ := hd?_ok h
    cases hz with
    | cons hx ht =>
      obtain ⟨z, w', h1, h2⟩ := evClear_ok (P := P) (t := t) (ts' := List.toArray (t :: ts')) (zs' := List.toArray (_ :: _)) tok hr (ty := ty) hx rfl rfl h
      exact Out.val h1 h2
  | copy =>
    obtain ⟨s, x, rfl, h⟩ := ex2_ok (show (ex2 l fun s x => ex2 ts fun t tx => evCopy tt M t tx s x).holds Q Qp from h)
    obtain ⟨t, tx, rfl, h⟩ := ex2_ok h
    cases hz with
    | cons hs hz =>
      cases hz with
      | cons hx hz =>
        cases hz
        obtain ⟨z, w', h1, h2⟩ := evCopy_ok (P := P) tok hr (ty := ty) hs hx h
        exact Out.val h1 h2
  | _ => exact h.elim

theorem args_rel {φ : Phi} {st : Tmps} {a : Act} (h : TmpsRel φ st a.tmps) (xs : Array Operand) : AVsRel φ (xs.toList.map (evA st)) (xs.map a.eval).toList := by
  rw [Array.toList_map]
  exact AVsRel.map _ _ _ fun x _ => evA_rel h x

theorem evCall_ok {P : Program} {tt : TT} (tok : TTok P tt) {N : NB} {callF : FuncId → List AV → Mem → T (AV × Mem)} (hc : CallsOk P N callF) {φ : Phi} {M : Mem} {w : World} (hr : Rep N φ M w) {st : Tmps} {a : Act} (hst : TmpsRel φ st a.tmps)
    {c : Call} {ty : TypeId} {Q : AV × Mem → Prop} {Qp : AV → Mem → Prop} (h : (evCall tt callF M st c).holds Q Qp) : Out P N φ M w Q Qp (do let d ← resolve a.eval c ty; invoke d.target d.args) := by
  have hargs := args_rel hst c.args
  unfold evCall at h
  cases hcl : c.callee with
  | builtin b =>
    rw [hcl] at h
    have := builtinA_ok (P := P) tok hr (ty := ty) (cs := c.args.map fun | .const _ => true | _ => false) hargs (show (builtinA tt M b c.argTypes.toList (c.args.toList.map (evA st))).holds Q Qp from h)
    rw [Array.toArray_toList, Array.toArray_toList] at this
    have e : resolve a.eval c ty = pure { target := .builtin b c.argTypes ty (c.args.map fun | .const _ => true | _ => false), args := c.args.map a.eval } := by
      unfold resolve; rw [hcl]; rfl
    rw [e]
    exact this
  | invoke r n => rw [hcl] at h; exact h.elim
  | value f =>
    rw [hcl] at h
    obtain ⟨fn, caps, hf, h⟩ := onFn_ok (show (onFn (evA st f) (callA callF M (c.args.toList.map (evA st)))).holds Q Qp from h)
    have hv := evA_rel hst f
    rw [hf] at hv
    generalize hgv : a.eval f = fv at hv
    cases hv with
    | fn _ _ ca hca =>
      cases fn with
      | func g =>
        have h : (callF g (c.args.toList.map (evA st) ++ caps) M).holds Q Qp := h
        have hrel := hargs.append hca
        rcases hc g _ M Q Qp h with ⟨⟨fn, body, hfn, hbody, hname⟩, hcalls⟩ | hext
        · refine .inr (.inr ⟨g, c.args.map a.eval ++ ca, w, ?_, ?_⟩)
          · have hname' : ¬ fn.name = "runtime.NumGoroutine" := by simpa using hname
            simp [resolve, hcl, hgv, Deferred.ofValue, invoke, callFunc, program, Sem.run, hfn, hbody, hname']
          · have := hcalls φ w _ hr hrel
            rwa [show ((c.args.map a.eval).toList ++ ca.toList).toArray = c.args.map a.eval ++ ca by simp] at this
        · obtain ⟨v, w', hrun, hg⟩ := hext φ w _ hr hrel
          rw [show ((c.args.map a.eval).toList ++ ca.toList).toArray = c.args.map a.eval ++ ca by simp] at hrun
          refine .inl ⟨v, w', .inl ?_, hg⟩
          simp [resolve, hcl, hgv, Deferred.ofValue, invoke, hrun]
      | _ => exact h.elim
end Go.Eng

set_option autoImplicit false
namespace Go.Eng
open Go Go.RowKit

/-! ## Maps of plain keys and values -/
theorem onMp_ok {β : Type} {x : AV} {f : Nat → T β} {Q : β → Prop} {Qp : AV → Mem → Prop} (h : (onMp x f).holds Q Qp) : ∃ id, x = .mp id ∧ (f id).holds Q Qp := by
  cases x <;> first | exact ⟨_, rfl, h⟩ | exact h.elim
theorem onMapO_ok {β : Type} {o : AObj} {f : List MapEntry → Nat → T β} {Q : β → Prop} {Qp : AV → Mem → Prop} (h : (onMapO o f).holds Q Qp) : ∃ es cl, o = .map es cl ∧ (f es cl).holds Q Qp := by
  cases o <;> first | exact ⟨_, _, rfl, h⟩ | exact h.elim
theorem plainL_ok {φ : Phi} : ∀ (l : List AV) {zs : List Value} {vs : List Value}, AVsRel φ l zs → plainL l = some vs → zs = vs := by
  intro l
  induction l with
  | nil => intro zs vs h e; cases h; cases e; rfl
  | cons x l ih =>
    intro zs vs h e
    cases h with
    | cons h t =>
      have e : (@Option.rec (List Value) (fun _ => Option (List Value)) none (fun r => @AV.casesOn (fun _ => Option (List Value)) x (fun k n => some (.int k n :: r)) (fun b => some (.bool b :: r)) (fun s => some (.string s :: r)) (fun v => some (v :: r))
    (fun _ _ _ => none) (fun _ _ _ _ => none) none (fun _ => none) (fun _ _ => none) (fun _ _ => none) (fun _ => none) (fun _ => none) none) (plainL l)) = some vs := e
      cases hp : plainL l with
      | none => rw [hp] at e; cases e
      | some r =>
        rw [hp] at e
        have := ih t hp
        subst this
        cases h <;> first | (cases e; rfl) | (cases e; done)
theorem plainV_ok {φ : Phi} {x : AV} {z v : Value} (h : AVRel φ x z) (e : plainV x = some v) : z = v := by
  cases h <;> first | (cases e; rfl) | (cases e; done) | skip
  rename_i l a hl
  have e : (@Option.rec (List Value) (fun _ => Option Value) none (fun vs => some (.agg vs.toArray)) (plainL l)) = some v := e
  cases hp : plainL l with
  | none => rw [hp] at e; cases e
  | some r =>
    rw [hp] at e
    cases e
    have := plainL_ok l hl hp
    rw [← this]
theorem liftT_rel (φ : Phi) (v : Value) : AVRel φ (liftT v) v := by
  cases v
  case tuple cs =>
    refine .tup _ _ ?_
    have := AVsRel.map (φ := φ) cs.toList lift id fun x _ => lift_rel φ x
    simpa using this
  all_goals (unfold liftT; exact lift_rel φ _)

theorem isNone'_ok {α β : Type} {x : Option α} {t : T β} {Q : β → Prop} {Qp : AV → Mem → Prop} (h : (isNone' x t).holds Q Qp) : x = none ∧ t.holds Q Qp := by
  cases x with
  | none => exact ⟨rfl, h⟩
  | some => exact h.elim

theorem mp_obj {N : NB} {φ : Phi} {M : Mem} {w : World} (hr : Rep N φ M w) {id : Nat} {es : List MapEntry} {cl : Nat} (ho : M.get id = .map es cl) {z : Value} (hz : AVRel φ (.mp id) z) :
    ∃ p, φ id = some (some p) ∧ (p.o = 0 ∧ p.spot = none) ∧ w.heap[p.b]? = some (.map es.toArray cl) ∧ z = .map (some p.b) := by
  have h := hr.objs id
  rw [ho] at h
  obtain ⟨p, hp, h0, h1⟩ := h
  cases hz with
  | mp _ q hq => rw [hp] at hq; cases hq; exact ⟨p, hp, h0, h1, rfl⟩

theorem heap_set0 {w : World} {r : Nat} {o o' : Obj} (hb : w.heap[r]? = some o) : (w.heap.setIfInBounds r o')[r]? = some o' ∧ ∀ r', r' ≠ r → (w.heap.setIfInBounds r o')[r']? = w.heap[r']? := by
  have hlt : r < w.heap.size := (Array.getElem?_eq_some_iff.1 hb).1
  exact ⟨by simp [hlt], fun r' hne => by simp [Ne.symm hne]⟩
/-- An object in its own block is changed. -/
theorem Rep.reset {N : NB} {φ : Phi} {M : Mem} {w w' : World} (h : Rep N φ M w) {id : Nat} {p : Pl} (ho : isOwn (M.get id)) (hp : φ id = some (some p)) (hl : M.lock ≤ id) (o : AObj) (_ : isOwn o)
    (hs : w'.heap.size = w.heap.size) (hos : w'.os = w.os) (htp : w'.tape = w.tape) (hout : w'.output = w.output) (hk : ∀ b, b ≠ p.b → w'.heap[b]? = w.heap[b]?)
    (hob : ObjRel N φ w' id o) :
    Rep N φ (M.set id o) w' ∧ Ext φ M w φ (M.set id o) w' := by
  have own : ∀ j, isOwn ((M.set id o).get j) → isOwn (M.get j) := by
    intro j hj
    simp only [Mem.get_set] at hj
    split at hj
    · rename_i e; subst e; exact ho
    · exact hj
  have hN := h.high id p ho hp
  refine ⟨⟨fun j => ?_, fun j j' q q' h1 h2 h3 h4 e => h.sep j j' q q' (own j h1) (own j' h2) h3 h4 e, fun j q h1 h2 => h.high j q (own j h1) h2, fun j hj => ?_, by rw [hs]; exact h.size⟩,
    ⟨.refl _, fun _ _ => rfl, Nat.le_refl _, rfl, hos, htp, hout, by rw [hs]; exact Nat.le_refl _, fun b hb hno => hk b fun e => hno id p hl ho hp e.symm, fun j q h1 h2 h3 => ⟨j, q, own j h1, h2, rfl, fun h => h⟩⟩⟩
  · simp only [Mem.get_set]
    split
    · rename_i e; subst e; exact hob
    · rename_i hne
      refine (h.objs j).step (.refl _) (fun b hb => hk b (by omega)) (fun h1 q h2 => hk q.b fun e => hne ?_)
      exact h.sep j id q p h1 ho h2 hp e
  · obtain ⟨h1, h2⟩ := h.fresh j hj
    have hne : j ≠ id := by rintro rfl; rw [h1] at ho; exact ho
    simp only [Mem.get_set, if_neg hne]
    exact ⟨h1, h2⟩

theorem evMakeMap_ok {P : Program} {N : NB} {φ : Phi} {M : Mem} {w : World} (hr : Rep N φ M w) {t : TypeId} {r : Option Operand} {ρ : Operand → Value} {Q : AV × Mem → Prop} {Qp : AV → Mem → Prop} (h : (evMakeMap M r).holds Q Qp) :
    ∃ z w', (Instr.makeMap t (r.map ρ)).run P w = .ok z w' ∧ Good N φ M w Q z w' := by
  cases r with
  | some x => exact h.elim
  | none =>
    have hq : Q (.mp M.next, M.new (.map [] 0)) := h
    refine ⟨_, _, run_makeMap t w, ?_⟩
    obtain ⟨h1, h2⟩ := hr.newOwn (.map [] 0) (.map #[] 0) ⟨w.heap.size, 0, 1, 0, none⟩ rfl ⟨⟨w.heap.size, 0, 1, 0, none⟩, by simp [updP], ⟨rfl, rfl⟩, alloc_new w _⟩
    exact ⟨_, _, _, hq, .mp _ ⟨w.heap.size, 0, 1, 0, none⟩ (by simp [updP]), h1, h2⟩

theorem evLookup_ok {P : Program} {N : NB} {φ : Phi} {M : Mem} {w : World} (hr : Rep N φ M w) {t : TypeId} {x ix : AV} {y iy : Value} (hx : AVRel φ x y) (hi : AVRel φ ix iy) {ck : Bool} {Q : AV × Mem → Prop} {Qp : AV → Mem → Prop} (h : (evLookup P M t x ix ck).holds Q Qp) :
    ∃ z, (Instr.lookup t y iy ck).run P w = .ok z w ∧ Good N φ M w Q z w := by
  obtain ⟨id, rfl, h⟩ := onMp_ok h
  obtain ⟨es, cl, ho, h⟩ := onMapO_ok h
  obtain ⟨kv, hkv, h⟩ := onO_ok h
  obtain ⟨v, hv, hq⟩ := onO_ok h
  have hq : Q (liftT v, M) := hq
  obtain ⟨p, hp, h0, hb, rfl⟩ := mp_obj hr ho hx
  obtain rfl := plainV_ok hi hkv
  refine ⟨v, ?_, .here hr hq (liftT_rel φ v)⟩
  have hrun := pureOf_run hv w
  rw [← hrun]
  unfold lookupG at hrun ⊢
  unfold Instr.lookup
  cases hu : P.underlying t with
  | none => simp [underlying, hu, stuck] at hrun
  | some d =>
    cases d <;> simp [run_underlying hu, stuck] at hrun
    have hget : (getObj p.b).run P w = .ok (.map es.toArray cl) w := by simp [getObj, Sem.run, hb]
    simp [run_underlying hu, hget, Sem.run_bind]
    rfl

theorem evAssert_ok {P : Program} {N : NB} {φ : Phi} {M : Mem} {w : World} (hr : Rep N φ M w) {x : AV} {y : Value} (hx : AVRel φ x y) {t a : TypeId} {ck : Bool} {Q : AV × Mem → Prop} {Qp : AV → Mem → Prop} (h : (evAssert P M x t a ck).holds Q Qp) :
    ∃ z, (Instr.typeAssert y t a ck).run P w = .ok z w ∧ Good N φ M w Q z w := by
  obtain ⟨v, rfl, h⟩ := onV_ok h
  obtain ⟨r, hr0, hq⟩ := onO_ok h
  have hq : Q (liftT r, M) := hq
  cases hx with
  | v => exact ⟨r, pureOf_run hr0 w, .here hr hq (liftT_rel φ r)⟩

theorem evMapUpd_ok {P : Program} {N : NB} {φ : Phi} {M : Mem} {w : World} (hr : Rep N φ M w) {t : TypeId} {x k v : AV} {y ky vy : Value} (hx : AVRel φ x y) (hk : AVRel φ k ky) (hv : AVRel φ v vy) {Q : AV × Mem → Prop} {Qp : AV → Mem → Prop} (h : (evMapUpd P M t x k v).holds Q Qp) :
    ∃ w', (Instr.mapUpdate t y ky vy).run P w = .ok () w' ∧ Good N φ M w Q undef w' := by
  obtain ⟨id, rfl, h⟩ := onMp_ok h
  obtain ⟨es, cl, ho, h⟩ := onMapO_ok h
  obtain ⟨hl, h⟩ := br_ok h
  obtain ⟨kv, hkv, h⟩ := onO_ok h
  obtain ⟨vv, hvv, h⟩ := onO_ok h
  obtain ⟨r, hr0, h⟩ := onO_ok h
  obtain ⟨rfl, hq⟩ := isNone'_ok h
  have hq : Q (.v undef, M.set id (.map (es ++ [⟨kv, vv, cl⟩]) (cl + 1))) := hq
  obtain ⟨p, hp, h0, hb, rfl⟩ := mp_obj hr ho hx
  obtain rfl := plainV_ok hk hkv
  obtain rfl := plainV_ok hv hvv
  have hrun := pureOf_run hr0 w
  unfold updG at hrun
  have hrun2 : (Instr.mapUpdate t (.map (some p.b)) ky vy).run P w = .ok () { w with heap := w.heap.setIfInBounds p.b (.map (es.toArray.push ⟨ky, vy, cl⟩) (cl + 1)) } := by
    unfold Instr.mapUpdate
    cases hu : P.underlying t with
    | none => simp [underlying, hu, stuck] at hrun
    | some d =>
      cases d <;> simp [run_underlying hu, stuck] at hrun
      have hget : (getObj p.b).run P w = .ok (.map es.toArray cl) w := by simp [getObj, Sem.run, hb]
      simp only [Sem.run_bind, run_underlying hu, hget, Result.andThen_ok]
      rename_i kt et
      cases h1 : (Instr.checkKey false 10000 kt ky).run P w with
      | ok u w1 =>
        rw [h1] at hrun
        simp only [Result.andThen_ok] at hrun
        simp only [Result.andThen_ok, hrun]
        simp [setObj, Sem.run, hb]
      | _ => rw [h1] at hrun; simp [Result.andThen] at hrun
  have hown : isOwn (M.get id) := by rw [ho]; trivial
  obtain ⟨hs1, hs2⟩ := heap_set0 (o' := .map (es.toArray.push ⟨ky, vy, cl⟩) (cl + 1)) hb
  obtain ⟨h1, h2⟩ := hr.reset (w' := { w with heap := w.heap.setIfInBounds p.b (.map (es.toArray.push ⟨ky, vy, cl⟩) (cl + 1)) }) hown hp (Nat.le_of_ble_eq_true hl) (.map (es ++ [⟨ky, vy, cl⟩]) (cl + 1)) trivial (by simp) rfl rfl rfl hs2 ⟨p, hp, h0, by rw [hs1]; simp⟩
  exact ⟨_, hrun2, φ, _, _, hq, .v _, h1, h2⟩
end Go.Eng

set_option autoImplicit false
namespace Go.Eng
open Go Go.RowKit

theorem zero_rel {φ : Phi} (zs : List Value) : AVsRel φ (zs.map lift1) zs := by
  have := AVsRel.map (φ := φ) zs lift1 id fun x _ => lift1_rel φ x
  simpa using this

theorem evOp_ok {P : Program} {K : Ctx} (hP : K.P = P) (tok : TTok P K.tt) {N : NB} (hc : CallsOk P N K.callF) {φ : Phi} {w : World} (hr : Rep N φ K.M w) {a : Act} (hst : TmpsRel φ K.st a.tmps)
    (o : Oper) {Q : AV × Mem → Prop} {Qp : AV → Mem → Prop} (h : (evOp K o.op).holds Q Qp) (hsrc : ∀ s d x, o.op = .convert s d x → ∃ e, P.underlying s = some e) : Out P N φ K.M w Q Qp (execOp a.eval o) := by
  obtain ⟨P', tt, callF, M, st⟩ := K
  simp only at hP tok hc hr hst
  subst hP
  unfold execOp
  cases ho : o.op with
  | move x => rw [ho] at h; exact .inl ⟨_, w, .inl rfl, .here hr h (evA_rel hst x)⟩
  | assign x => rw [ho] at h; exact .inl ⟨_, w, .inl rfl, .here hr h (evA_rel hst x)⟩
  | pick c x y =>
    rw [ho] at h
    obtain ⟨b, hb, h⟩ := onB_ok (show (onB (evA st c) fun t => .br t (.ret (evA st x, M)) (.ret (evA st y, M))).holds Q Qp from h)
    have hv := evA_rel hst c
    rw [hb] at hv
    generalize hgv : a.eval c = cv at hv
    cases hv
    obtain ⟨h1, h2⟩ := h
    cases b with
    | true => exact .inl ⟨a.eval x, w, .inl (by simp [hgv, asBool]), .here hr (h1 rfl) (evA_rel hst x)⟩
    | false => exact .inl ⟨a.eval y, w, .inl (by simp [hgv, asBool]), .here hr (h2 rfl) (evA_rel hst y)⟩
  | alloc e =>
    rw [ho] at h
    have h : (evAlloc tt M e).holds Q Qp := h
    by_cases hb : (tt e).u = .bad
    · unfold evAlloc at h; rw [hb] at h; exact h.elim
    obtain ⟨i, z, hi, hs, _, hz, hzz, _⟩ := (tok e hb).info
    have hrel : AVsRel φ (tt e).zero z.cells.toList := by rw [← hzz]; exact zero_rel _
    obtain ⟨_, v, w', hrun, hg⟩ := evAlloc_ok (P := P') hr hrel h
    exact .val (by simpa [Instr.alloc, zeroValue, typeInfo, hi, hz, newVar] using hrun) hg
  | box e x =>
    rw [ho] at h
    have h : (newOwn M e (evA st x).cells.length (evA st x).cells).holds Q Qp := h
    have hv := evA_rel hst x
    have hl : allLeaf (evA st x).cells = true := (Bool.and_eq_true_iff.1 (br_ok h).1).1
    have hrel := hv.cells (by intro e; rw [e] at hl; cases hl) (by
      intro y e; rw [e] at hl
      have := allLeaf_ok hl (.v y) (by simp [AV.cells])
      exact this)
    obtain ⟨v, w', hrun, hg⟩ := newOwn_ok (P := P') hr hrel h
    exact .val (by simpa [Instr.box, newVar] using hrun) hg
  | build t ps =>
    rw [ho] at h
    obtain ⟨z, hrun, hg⟩ := evBuild_ok tok hr hst (show (evBuild tt (tt t) M st ps.toList).holds Q Qp from h)
    exact .val hrun hg
  | makeFunc f xs ys =>
    rw [ho] at h
    have h : (mkFn M f xs.toList (ys.toList.map (evA st))).holds Q Qp := h
    cases hx : xs.toList with
    | cons b l => rw [hx] at h; exact h.elim
    | nil =>
      rw [hx] at h
      have hq : Q (.fn f (ys.toList.map (evA st)), M) := h
      have hx : xs = #[] := by simpa using hx
      subst hx
      refine .val (s := Instr.makeFunc f (#[].map a.eval) (ys.map a.eval)) (z := .func f #[] (ys.map a.eval)) (w' := w) (by simp [Instr.makeFunc]) (.here hr hq (.fn _ _ _ (args_rel hst ys)))
  | makeSlice t x y =>
    rw [ho] at h
    obtain ⟨z, w', hrun, hg⟩ := evMakeSlice_ok tok hr (evA_rel hst x) (evA_rel hst y) (show (evMakeSlice tt (tt t).u M (evA st x) (evA st y)).holds Q Qp from h)
    exact .val hrun hg
  | buildSlice t n ps =>
    rw [ho] at h
    obtain ⟨z, w', hrun, hg⟩ := evBuildSlice_ok tok hr hst (show (evBuildSlice tt (tt t).u M st n ps.toList).holds Q Qp from h)
    exact .val hrun hg
  | slice t x lo hi mx =>
    rw [ho] at h
    obtain ⟨z, hrun, hg⟩ := evSlice_ok tok hr hst (show (evSlice tt (tt t).u M st (evA st x) lo hi mx).holds Q Qp from h)
    exact .val hrun hg
  | load t x =>
    rw [ho] at h
    obtain ⟨z, hrun, hg⟩ := evLoad_ok tok hr (evA_rel hst x) (show (evLoad (tt t) M (evA st x)).holds Q Qp from h)
    exact .val hrun hg
  | store t x y =>
    rw [ho] at h
    obtain ⟨id, r, c, hx, h⟩ := onPtr_ok (show (evStore (tt t) M (evA st x) (evA st y)).holds Q Qp from h)
    obtain ⟨hb, h⟩ := onK_both h
    obtain ⟨hn, h⟩ := br_ok h
    rw [T.holds_bind] at h
    have hv := evA_rel hst x
    rw [hx] at hv
    generalize hgv : a.eval x = xv at hv
    have hy := evA_rel hst y
    cases hv with
    | ptr _ _ _ p hp hps =>
      have hlen : (evA st y).cells.length = (tt t).size := Nat.eq_of_beq_eq_true hn
      by_cases htop : evA st y = .top ∨ ∃ v, evA st y = .v v ∧ leafV v = false
      · -- a cell that is no leaf is not stored
        exfalso
        have key : ∀ x, leafA x = false → ∀ l c M, (storeCells id r (x :: l) M c).holds (fun M => Q (.v undef, M)) Qp → False := by
          intro x hx l c M h
          have h' : ((storeCell M id r c x).bind fun M => storeCells id r l M (c + 1)).holds (fun M => Q (.v undef, M)) Qp := h
          rw [T.holds_bind] at h'
          unfold storeCell at h'
          cases hg : M.get id with
          | own e rs cells =>
            rw [hg] at h'
            have := (ck_ok (ck_ok h').2).1
            rw [hx] at this; cases this
          | vec e n cols =>
            rw [hg] at h'
            obtain ⟨_, h'⟩ := br_ok (ck_ok (show (T.ck (Nat.ble M.lock id) (T.br (Nat.blt r n) (onO (nth? cols c) fun col => onO (colSet r col x) fun col' => (.ret (M.set id (.vec e n (cols.set c col'))) : T Mem)) .fail)).holds _ Qp from h')).2
            obtain ⟨col, _, h'⟩ := onO_ok h'
            obtain ⟨col', h2, _⟩ := onO_ok h'
            rw [(colSet_ok h2).1] at hx; cases hx
          | _ => rw [hg] at h'; exact h'.elim
        rcases htop with e | ⟨v, e, hv⟩
        · rw [e] at h; exact key .top rfl [] _ _ h
        · rw [e] at h; exact key (.v v) hv [] _ _ h
      · have hrel := hy.cells (fun e => htop (.inl e)) (fun v e => by
          cases hl : leafV v with
          | true => rfl
          | false => exact (htop (.inr ⟨v, e, hl⟩)).elim)
        obtain ⟨w', M', hrun, hq, hr', he⟩ := storeCells_ok (P := P') hp hps _ hrel 0 hr h
        refine .inl ⟨undef, w', .inr ⟨?_, rfl⟩, φ, .v undef, M', hq, .v _, hr', he⟩
        have hsz : (a.eval y).cells.size = (tt t).size := by rw [← hlen, hrel.length, Array.length_toList]
        simp [Instr.storeAt, Instr.sureAddr, hgv, storeVar, run_sizeOf' (tok t hb), hsz, hrun]
  | nilCheck x =>
    rw [ho] at h
    obtain ⟨id, r, c, hx, h⟩ := onPtr_ok (show (onPtr (evA st x) fun id r c => .ret (.ptr id r c, M)).holds Q Qp from h)
    have hv := evA_rel hst x
    rw [hx] at hv
    generalize hgv : a.eval x = xv at hv
    cases hv with
    | ptr _ _ _ p hp hps => exact .inl ⟨_, w, .inl (by simp only [hgv]; rfl), .here hr h (.ptr _ _ _ _ hp hps)⟩
  | binOp op t x y yt =>
    rw [ho] at h
    obtain ⟨hb, h⟩ := onK_both (show (onK (tt t).u (evBin P' tt M op t x y (evA st x) (evA st y)) (evBin P' tt M op t x y (evA st x) (evA st y))).holds Q Qp from h)
    obtain ⟨z, hrun, hg⟩ := evBin_ok tok hr hb (x := x) (y := y) (evA_rel hst x) (evA_rel hst y) h
    exact .val hrun hg
  | unOp op t x =>
    rw [ho] at h
    exact .ofVal hr (unA_ok (evA_rel hst x) (retM_ok (show (retM M (unA P' op (evA st x))).holds Q Qp from h)))
  | convert s d x =>
    rw [ho] at h
    rcases onK_ok (show (onK (tt d).u .fail (evConv P' tt M s d (evA st x))).holds Q Qp from h) with ⟨_, _, h⟩ | ⟨hb, _, h⟩
    · exact h.elim
    · obtain ⟨z, w', hrun, hg⟩ := evConv_ok tok hr hb (hsrc s d x ho) (evA_rel hst x) h
      exact .val hrun hg
  | fieldAddr t x f =>
    rw [ho] at h
    obtain ⟨z, hrun, hg⟩ := evFieldAddr_ok tok hr (evA_rel hst x) (show (evFieldAddr (tt t).u M (evA st x) f).holds Q Qp from h)
    exact .val hrun hg
  | field t x f =>
    rw [ho] at h
    obtain ⟨z, hrun, hg⟩ := evField_ok tok hr (evA_rel hst x) (show (evField tt (tt t).u M (evA st x) f).holds Q Qp from h)
    exact .val hrun hg
  | indexAddr t x ix =>
    rw [ho] at h
    obtain ⟨z, hrun, hg⟩ := evIndexAddr_ok tok hr (evA_rel hst x) (evA_rel hst ix) (show (evIndexAddr tt (tt t).u M (evA st x) (evA st ix)).holds Q Qp from h)
    exact .val hrun hg
  | index t x ix =>
    rw [ho] at h
    obtain ⟨z, hrun, hg⟩ := evIndex_ok tok hr (evA_rel hst x) (evA_rel hst ix) (show (evIndex tt (tt t).u M (evA st x) (evA st ix)).holds Q Qp from h)
    exact .val hrun hg
  | extract t ix =>
    rw [ho] at h
    obtain ⟨l, hl, h⟩ := onTup_ok (show (onTup (evA st t) fun l => (sel l ix).bind fun v => .ret (v, M)).holds Q Qp from h)
    rw [T.holds_bind] at h
    obtain ⟨v, hv, hq⟩ := sel_ok h
    have ht := evA_rel hst t
    rw [hl] at ht
    generalize hgv : a.eval t = tv at ht
    cases ht with
    | tup _ vs hrel =>
      obtain ⟨z, hz, hzr⟩ := hrel.get _ _ hv
      have hz : vs[ix]? = some z := by simpa using hz
      exact .val (s := Instr.extract (a.eval t) ix) (z := z) (w' := w) (by simp [hgv, Instr.extract, hz]) (.here hr hq hzr)
  | call c => rw [ho] at h; exact evCall_ok tok hc hr hst (show (evCall tt callF M st c).holds Q Qp from h)
  | panic x =>
    rw [ho] at h
    have h : (evPanic M (evA st x)).holds Q Qp := h
    have hv := evA_rel hst x
    generalize hgv : a.eval x = xv at hv
    generalize evA st x = y at h hv
    cases hv with
    | v =>
      obtain ⟨h1, h2⟩ := br_ok (show (T.br (isIface xv) (.pan (.v xv) M) .fail).holds Q Qp from h)
      cases xv <;> first | (cases h1; done) | skip
      refine .inr (.inl ⟨_, w, by simp [hgv, Instr.panic, goPanic, Sem.run], φ, _, M, h2, .v _, hr, .refl _ _ _⟩)
    | ifc t x z hz => exact .inr (.inl ⟨_, w, by simp [hgv, Instr.panic, goPanic, Sem.run], φ, _, M, h, .ifc _ _ _ hz, hr, .refl _ _ _⟩)
    | _ => exact h.elim
  | makeInterface t x =>
    rw [ho] at h
    obtain ⟨hb, hi, h⟩ := onC_ok (show (onC (tt t).u (mkIfc M t (evA st x))).holds Q Qp from h)
    obtain ⟨d, hd, hni⟩ := concrete (tok t hb) hb hi
    have hrun : ∀ z, (Instr.makeInterface t z).run P' w = .ok (.iface t z) w := by
      intro z
      cases d <;> first | (exact absurd rfl (hni _)) | simp [Instr.makeInterface, run_underlying hd]
    have hv := evA_rel hst x
    generalize hgv : a.eval x = xv at hv
    generalize evA st x = y at h hv
    refine Out.val (by rw [hgv]; exact hrun xv) ?_
    cases hv with
    | i k n => exact .here hr h (.v _)
    | b n => exact .here hr h (.v _)
    | s n => exact .here hr h (.v _)
    | v => exact .here hr h (.v _)
    | ptr id r c p hp hps => exact .here hr h (.ifc _ _ _ (.ptr _ _ _ _ hp hps))
    | agg l vs hrel =>
      obtain ⟨us, hus, hq⟩ := onO_ok h
      have : ∀ (l : List AV) (us zs : List Value), plainL l = some us → AVsRel φ l zs → zs = us := by
        intro l
        induction l with
        | nil => intro us zs h hz; cases hz; exact Option.some.inj h
        | cons x l ih =>
          intro us zs h hz
          cases hz with
          | cons hx ht =>
            have h' : (@Option.rec (List Value) (fun _ => Option (List Value)) none (fun r => @AV.casesOn (fun _ => Option (List Value)) x (fun k n => some (.int k n :: r)) (fun b => some (.bool b :: r)) (fun s => some (.string s :: r)) (fun v => some (v :: r))
              (fun _ _ _ => none) (fun _ _ _ _ => none) none (fun _ => none) (fun _ _ => none) (fun _ _ => none) (fun _ => none) (fun _ => none) none) (plainL l)) = some us := h
            cases hp : plainL l with
            | none => rw [hp] at h'; cases h'
            | some r =>
              rw [hp] at h'
              have := ih _ _ hp ht
              subst this
              cases hx <;> first | (cases h'; done) | (exact Option.some.inj h')
      have e := this l us vs.toList hus hrel
      have e : us.toArray = vs := by rw [← e]
      rw [e] at hq
      exact .here hr hq (.v _)
    | _ => exact h.elim
  | makeMap t r =>
    rw [ho] at h
    obtain ⟨z, w', hrun, hg⟩ := evMakeMap_ok (P := P') (t := t) (ρ := a.eval) hr (show (evMakeMap M r).holds Q Qp from h)
    exact .val hrun hg
  | lookup t x ix ck =>
    rw [ho] at h
    obtain ⟨z, hrun, hg⟩ := evLookup_ok hr (evA_rel hst x) (evA_rel hst ix) (show (evLookup P' M t (evA st x) (evA st ix) ck).holds Q Qp from h)
    exact .val hrun hg
  | mapUpdate t m k v =>
    rw [ho] at h
    obtain ⟨w', hrun, hg⟩ := evMapUpd_ok hr (evA_rel hst m) (evA_rel hst k) (evA_rel hst v) (show (evMapUpd P' M t (evA st m) (evA st k) (evA st v)).holds Q Qp from h)
    exact .inl ⟨undef, w', .inr ⟨by simp [hrun], rfl⟩, hg⟩
  | typeAssert x t b ck =>
    rw [ho] at h
    obtain ⟨z, hrun, hg⟩ := evAssert_ok hr (evA_rel hst x) (show (evAssert P' M (evA st x) t b ck).holds Q Qp from h)
    exact .val hrun hg
  | _ => rw [ho] at h; exact h.elim
end Go.Eng

set_option autoImplicit false
namespace Go.Eng
open Go Go.RowKit

structure StOk (N : NB) (n : Nat) (ds : List Deferred) (φ : Phi) (M : Mem) (w : World) (st : Tmps) (a : Act) : Prop where
  rep : Rep N φ M w
  tmps : TmpsRel φ st a.tmps
  size : a.tmps.size = n
  defers : a.defers = ds

/-- What follows a panic. -/
def PanOk (N : NB) (ds : List Deferred) (φ : Phi) (M : Mem) (w : World) (Qp : AV → Mem → Prop) (QX : Exit → Act → World → Prop) : Prop :=
  ∀ v a' w', a'.defers = ds → GoodP N φ M w Qp v w' → QX (.panic [{ v, recovered := false }]) a' w'
theorem PanOk.step {N : NB} {ds : List Deferred} {φ φ' : Phi} {M M' : Mem} {w w' : World} {Qp : AV → Mem → Prop} {QX : Exit → Act → World → Prop} (h : PanOk N ds φ M w Qp QX) (he : Ext φ M w φ' M' w') : PanOk N ds φ' M' w' Qp QX :=
  fun v a' w'' hd ⟨φ2, x, M2, h1, h2, h3, h4⟩ => h v a' w'' hd ⟨φ2, x, M2, h1, h2, h3, he.trans h4⟩

theorem putA_eq (d : Option Tmp) (st : Tmps) (v : AV) (t : Nat) : putA d st v t = match d with | some d => if t = d then v else st t | none => st t := by
  cases d with
  | none => rfl
  | some d =>
    show (@Bool.rec (fun _ => AV) (st t) v (Nat.beq t d)) = _
    simp only
    cases h : Nat.beq t d with
    | true => rw [if_pos (Nat.eq_of_beq_eq_true h)]
    | false => rw [if_neg (Nat.ne_of_beq_eq_false h)]
theorem putA_self {st : Tmps} {d : Tmp} {v : AV} (h : st d = v) : putA (some d) st v = st := by
  funext t
  rw [putA_eq]
  show (if t = d then v else st t) = st t
  split
  · rename_i e; rw [e, h]
  · rfl
theorem setB_self {st : Tmps} {c : Operand} {b : Bool} (h : evA st c = .b b) : setB c b st = st := by
  cases c with
  | tmp t => exact putA_self h
  | _ => rfl
theorem TmpsRel.mono {φ φ' : Phi} (hp : PhiLe φ φ') {st : Tmps} {tmps : Array Value} (h : TmpsRel φ st tmps) : TmpsRel φ' st tmps := fun t => (h t).mono hp
theorem TmpsRel.put {φ : Phi} {st : Tmps} {a : Act} (h : TmpsRel φ st a.tmps) {d : Option Tmp} {x : AV} {v : Value} (hx : AVRel φ x v) (hd : ∀ t, d = some t → t < a.tmps.size) : TmpsRel φ (putA d st x) (a.put d v).tmps := by
  intro t
  rw [putA_eq]
  cases d with
  | none => exact h t
  | some d =>
    simp only [Act.put]
    split
    · rename_i e; subst e
      have hlt := hd t rfl
      simp [hlt, hx]
    · rename_i hne
      have : (a.tmps.setIfInBounds d v).getD t undef = a.tmps.getD t undef := by
        simp only [Array.getD_eq_getD_getElem?, Array.getElem?_setIfInBounds, if_neg (Ne.symm hne)]
      rw [this]; exact h t
theorem put_size (a : Act) (d : Option Tmp) (v : Value) : (a.put d v).tmps.size = a.tmps.size := by cases d <;> simp [Act.put]
theorem put_defers (a : Act) (d : Option Tmp) (v : Value) : (a.put d v).defers = a.defers := by cases d <;> rfl

def OpOk (P : Program) (n : Nat) (o : Oper) : Prop := (∀ d, o.dst = some d → d < n) ∧ ∀ s d x, o.op = .convert s d x → ∃ e, P.underlying s = some e

theorem yielded_rel {φ : Phi} {st : Tmps} {a : Act} (h : TmpsRel φ st a.tmps) {ops : Array Oper} {j d : Nat} {p : Oper} (hp : ops.toList[j]? = some p) (hd : p.dst = some d) (hlt : d < a.tmps.size) :
    (∀ b, st d = .b b → yielded ops a.tmps j = some b) ∧ ((∀ b, st d ≠ .b b) → st d ≠ .top → (∀ b, st d ≠ .v (.bool b)) → yielded ops a.tmps j = none) := by
  have hp' : ops[j]? = some p := by simpa using hp
  have hr := h d
  have hg : a.tmps[d]? = some (a.tmps.getD d undef) := by simp [Array.getD_eq_getD_getElem?, hlt]
  constructor
  · intro b e
    rw [e] at hr
    generalize hz : a.tmps.getD d undef = z at hr hg
    cases hr
    simp [yielded, hp', hd, hg]
  · intro h1 h2 h3
    simp only [yielded, hp', Option.bind_some, hd, hg]
    generalize a.tmps.getD d undef = z at hr
    generalize st d = x at hr h1 h2 h3
    cases hr <;> first | rfl | (exact absurd rfl (h1 _)) | (exact absurd rfl h2) | skip
    cases z <;> first | rfl | exact absurd rfl (h3 _)

theorem evOps_stepA {P : Program} {tt : TT} (tok : TTok P tt) {N : NB} {callF : FuncId → List AV → Mem → T (AV × Mem)} (hc : CallsOk P N callF) {n : Nat} {ds : List Deferred} {ops : Array Oper} (hall : ∀ o ∈ ops.toList, OpOk P n o)
    {o : Oper} {l : List Oper} {st : Tmps} {M : Mem} {φ : Phi} {w : World} {a : Act} {Q : Tmps × Mem → Prop} {Qp : AV → Mem → Prop} {QX : Exit → Act → World → Prop} {K : Act → World → Prop} (h : (evOps P tt callF ops.toList (o :: l) st M).holds Q Qp) (hoo : OpOk P n o)
    (hs : StOk N n ds φ M w st a) (ih : ∀ φ' M' w' st' a', (evOps P tt callF ops.toList l st' M').holds Q Qp → StOk N n ds φ' M' w' st' a' → Ext φ M w φ' M' w' → K a' w') (hp : ∀ v w', GoodP N φ M w Qp v w' → QX (.panic [{ v, recovered := false }]) a w') :
    if Region.wanted o (yielded ops a.tmps) = true then o.wp P a w K QX ∨ (o.asks P a w ∧ LetsOut QX) else K (a.put o.dst undef) w := by
  -- the operation is carried out
  have go : ((evOp ⟨P, tt, callF, M, st⟩ o.op).bind fun x => evOps P tt callF ops.toList l (putA o.dst st x.1) x.2).holds Q Qp → o.wp P a w (K) QX := by
    intro h
    rw [T.holds_bind] at h
    have key : ∀ v w', Good N φ M w (fun x => (evOps P tt callF ops.toList l (putA o.dst st x.1) x.2).holds Q Qp) v w' → K (a.put o.dst v) w' := by
      intro v w' ⟨φ', x, M', hq', hv, hr', he⟩
      exact ih φ' M' w' _ _ hq' ⟨hr', (hs.tmps.mono he.phi).put hv (fun t ht => by rw [hs.size]; exact hoo.1 t ht), (put_size ..).trans hs.size, (put_defers ..).trans hs.defers⟩ he
    have hout := evOp_ok (K := ⟨P, tt, callF, M, st⟩) rfl tok hc hs.rep hs.tmps o h hoo.2
    unfold Oper.wp
    rcases hout with ⟨v, w', hrun, hg⟩ | ⟨v, w', hrun, hg⟩ | ⟨f, args, w', hrun, hcalls⟩
    · rcases hrun with hrun | ⟨hrun, hv⟩
      · rw [hrun]; exact key v w' hg
      · rw [hrun]; subst hv; exact key _ w' hg
    · rw [hrun]; exact hp v w' hg
    · rw [hrun]
      refine Calls.mono hcalls ?_
      intro e w'' he
      rcases he with ⟨v, rfl, hg⟩ | ⟨v, rfl, hg⟩
      · exact key v w'' hg
      · exact hp v w'' hg
  have skip : (evOps P tt callF ops.toList l (putA o.dst st (.v undef)) M).holds Q Qp → K (a.put o.dst undef) w := by
    intro h
    exact ih φ M w _ _ h ⟨hs.rep, hs.tmps.put (.v _) (fun t ht => by rw [hs.size]; exact hoo.1 t ht), (put_size ..).trans hs.size, (put_defers ..).trans hs.defers⟩ (.refl _ _ _)
  have h' : (@Option.rec (Nat × Bool) (fun _ => T (Tmps × Mem)) ((evOp ⟨P, tt, callF, M, st⟩ o.op).bind fun x => evOps P tt callF ops.toList l (putA o.dst st x.1) x.2)
    (guarded ops.toList st M o (evOps P tt callF ops.toList l) fun st => (evOp ⟨P, tt, callF, M, st⟩ o.op).bind fun x => evOps P tt callF ops.toList l (putA o.dst st x.1) x.2) o.guard).holds Q Qp := h
  cases hg : o.guard with
  | none =>
    rw [hg] at h'
    simp only [Region.wanted, hg, if_true]
    exact .inl (go h')
  | some g =>
    rw [hg] at h'
    obtain ⟨j, want⟩ := g
    have h' : (guarded ops.toList st M o (evOps P tt callF ops.toList l) (fun st => (evOp ⟨P, tt, callF, M, st⟩ o.op).bind fun x => evOps P tt callF ops.toList l (putA o.dst st x.1) x.2) (j, want)).holds Q Qp := h'
    unfold guarded at h'
    rw [nth?_eq] at h'
    cases hpj : ops.toList[j]? with
    | none => simp only [hpj] at h'; exact h'.elim
    | some p =>
      simp only [hpj] at h'
      unfold yB at h'
      have hpok := hall p (List.mem_of_getElem? hpj)
      cases hd : p.dst with
      | none => rw [hd] at h'; exact h'.elim
      | some d =>
        rw [hd] at h'
        have h' : (yC (st d) (fun b => .br (b == want) ((evOp ⟨P, tt, callF, M, putA (some d) st (.b want)⟩ o.op).bind fun x => evOps P tt callF ops.toList l (putA o.dst (putA (some d) st (.b want)) x.1) x.2) (evOps P tt callF ops.toList l (putA o.dst (putA (some d) st (.b (!want))) (.v undef)) M)) (evOps P tt callF ops.toList l (putA o.dst st (.v undef)) M)).holds Q Qp := h'
        have hlt : d < a.tmps.size := by rw [hs.size]; exact hpok.1 d hd
        obtain ⟨y1, y2⟩ := yielded_rel hs.tmps hpj hd hlt
        have hskip : (∀ b, st d ≠ .b b) → st d ≠ .top → (∀ b, st d ≠ .v (.bool b)) → (evOps P tt callF ops.toList l (putA o.dst st (.v undef)) M).holds Q Qp →
            (if Region.wanted o (yielded ops a.tmps) = true then o.wp P a w (K) QX ∨ (o.asks P a w ∧ LetsOut QX) else K (a.put o.dst undef) w) := by
          intro e1 e2 e3 hh
          rw [if_neg (by simp [Region.wanted, hg, y2 e1 e2 e3])]
          exact skip hh
        cases hst : st d with
        | b b =>
          rw [hst] at h'
          obtain ⟨h1, h2⟩ := h'
          have hy := y1 b hst
          cases hbw : b == want with
          | true =>
            rw [if_pos (by simp only [Region.wanted, hg, hy]; simpa using hbw)]
            have h1 := h1 hbw
            have hb : b = want := by simpa using hbw
            rw [← hb, putA_self hst] at h1
            exact .inl (go h1)
          | false =>
            rw [if_neg (by simp only [Region.wanted, hg, hy]; simpa using hbw)]
            have h2 := h2 hbw
            have hb : (!want) = b := by cases b <;> cases want <;> first | rfl | cases hbw
            rw [hb, putA_self hst] at h2
            exact skip h2
        | top => rw [hst] at h'; exact h'.elim
        | v x =>
          rw [hst] at h'
          obtain ⟨h1, h2⟩ := brn_ok h'
          refine hskip (by rw [hst]; simp) (by rw [hst]; simp) (fun b e => ?_) h2
          rw [hst] at e; cases e; cases h1
        | _ => rw [hst] at h'; exact hskip (by rw [hst]; simp) (by rw [hst]; simp) (by rw [hst]; simp) h'


theorem evOps_step {P : Program} {tt : TT} (tok : TTok P tt) {N : NB} {callF : FuncId → List AV → Mem → T (AV × Mem)} (hc : CallsOk P N callF) {n : Nat} {ds : List Deferred} {ops : Array Oper} (hall : ∀ o ∈ ops.toList, OpOk P n o)
    {o : Oper} {l : List Oper} {st : Tmps} {M : Mem} {φ : Phi} {w : World} {a : Act} {Q : Tmps × Mem → Prop} {Qp : AV → Mem → Prop} {QX : Exit → Act → World → Prop} {K : Act → World → Prop} (h : (evOps P tt callF ops.toList (o :: l) st M).holds Q Qp) (hoo : OpOk P n o)
    (hs : StOk N n ds φ M w st a) (ih : ∀ φ' M' w' st' a', (evOps P tt callF ops.toList l st' M').holds Q Qp → StOk N n ds φ' M' w' st' a' → Ext φ M w φ' M' w' → K a' w') (hp : PanOk N ds φ M w Qp QX) :
    if Region.wanted o (yielded ops a.tmps) = true then o.wp P a w K QX ∨ (o.asks P a w ∧ LetsOut QX) else K (a.put o.dst undef) w :=
  evOps_stepA tok hc hall h hoo hs ih fun v w' hg => hp v a w' hs.defers hg

theorem evOps_ok {P : Program} {tt : TT} (tok : TTok P tt) {N : NB} {callF : FuncId → List AV → Mem → T (AV × Mem)} (hc : CallsOk P N callF) {n : Nat} {ds : List Deferred} {ops : Array Oper} (hall : ∀ o ∈ ops.toList, OpOk P n o)
    (l : List Oper) : ∀ {st : Tmps} {M : Mem} {φ : Phi} {w : World} {a : Act} {Q : Tmps × Mem → Prop} {Qp : AV → Mem → Prop} {QX : Exit → Act → World → Prop} (_ : (evOps P tt callF ops.toList l st M).holds Q Qp) (_ : ∀ o ∈ l, OpOk P n o)
    (_ : StOk N n ds φ M w st a) (_ : ∀ φ' M' w' st' a', Q (st', M') → StOk N n ds φ' M' w' st' a' → Ext φ M w φ' M' w' → QX .normal a' w') (_ : PanOk N ds φ M w Qp QX), wpList P ops QX l a w := by
  induction l with
  | nil => intro st M φ w a Q Qp QX h _ hs hq hp; exact hq φ M w st a h hs (.refl _ _ _)
  | cons o l ih =>
    intro st M φ w a Q Qp QX h hok hs hq hp
    unfold wpList
    exact evOps_step tok hc hall h (hok o (by simp)) hs (fun φ' M' w' st' a' h1 h2 h3 => ih h1 (fun o' ho' => hok o' (by simp [ho'])) h2 (fun φ2 M2 w2 st2 a2 k1 k2 k3 => hq φ2 M2 w2 st2 a2 k1 k2 (h3.trans k3)) (hp.step h3)) hp
end Go.Eng

set_option autoImplicit false
namespace Go.Eng
open Go Go.RowKit

theorem T.nopan_ok {α : Type} {x : T α} {Q : α → Prop} {Qp : AV → Mem → Prop} (h : (T.nopan x).holds Q Qp) : x.holds Q (fun _ _ => False) := by
  induction x with
  | ret a => exact h
  | br b t e iht ihe => exact ⟨fun hb => iht (h.1 hb), fun hb => ihe (h.2 hb)⟩
  | pan x M => exact h.elim
  | ck b t ih => exact ⟨h.1, ih h.2⟩
  | fail => exact h.elim
theorem T.leaf {α : Type} {x : T α} {Q : α → Prop} (h : x.holds Q (fun _ _ => False)) : ∃ a, Q a ∧ x.holds (· = a) (fun _ _ => False) := by
  induction x with
  | ret a => exact ⟨a, h, rfl⟩
  | br b t e iht ihe =>
    cases hb : b with
    | true => obtain ⟨a, h1, h2⟩ := iht (h.1 hb); exact ⟨a, h1, by subst hb; exact And.intro (fun _ => h2) (fun x => nomatch x)⟩
    | false => obtain ⟨a, h1, h2⟩ := ihe (h.2 hb); exact ⟨a, h1, by subst hb; exact And.intro (fun x => nomatch x) (fun _ => h2)⟩
  | pan x M => exact h.elim
  | ck b t ih => obtain ⟨a, h1, h2⟩ := ih h.2; exact ⟨a, h1, h.1, h2⟩
  | fail => exact h.elim

theorem T.leaf_eq {α : Type} {x : T α} {a b : α} (h : x.holds (· = a) (fun _ _ => False)) (h' : x.holds (· = b) (fun _ _ => False)) : a = b := by
  induction x with
  | ret c => exact (show c = a from h).symm.trans h'
  | br c t e iht ihe =>
    cases c with
    | true => exact iht (h.1 rfl) (h'.1 rfl)
    | false => exact ihe (h.2 rfl) (h'.2 rfl)
  | pan x M => exact h'.elim
  | ck c t ih => exact ih h.2 h'.2
  | fail => exact h.elim
section
variable {P : Program} {tt : TT} {callF : FuncId → List AV → Mem → T (AV × Mem)}

theorem yD_cases {x : AV} {f : Bool → T (AV × Mem)} {none : T (AV × Mem)} {Q : AV × Mem → Prop} {Qp : AV → Mem → Prop} (h : (yD x f none).holds Q Qp) :
    (∃ b, x = .b b ∧ (f b).holds Q Qp) ∨ ((∀ b, x ≠ .b b) ∧ x ≠ .top ∧ (∀ b, x ≠ .v (.bool b)) ∧ none.holds Q Qp) := by
  cases x with
  | b b => exact .inl ⟨b, rfl, h⟩
  | top => exact h.elim
  | v y =>
    obtain ⟨h1, h2⟩ := brn_ok (show (T.br (isBoolV y) .fail none).holds Q Qp from h)
    exact .inr ⟨by simp, by simp, (fun b e => by cases e; cases h1), h2⟩
  | _ => exact .inr ⟨by simp, by simp, by simp, h⟩

/-- An operation of a region that draws: it's carried out, or skipped. -/
theorem drawOp_ok {all : List Oper} {A : Mem} {st : Tmps} {o : Oper} {Q : AV × Mem → Prop} {Qp : AV → Mem → Prop} (h : (drawOp P tt callF all A st o).holds Q Qp) :
    (o.guard = none ∧ (evOp ⟨P, tt, callF, A, st⟩ o.op).holds Q (fun _ _ => False)) ∨
    ∃ j want p d, o.guard = some (j, want) ∧ all[j]? = some p ∧ p.dst = some d ∧
      ((∃ b, st d = .b b ∧ (b = want → (evOp ⟨P, tt, callF, A, st⟩ o.op).holds Q (fun _ _ => False)) ∧ (b ≠ want → Q (.v undef, A))) ∨
       ((∀ b, st d ≠ .b b) ∧ st d ≠ .top ∧ (∀ b, st d ≠ .v (.bool b)) ∧ Q (.v undef, A))) := by
  have h : (@Option.rec (Nat × Bool) (fun _ => T (AV × Mem)) (T.nopan (evOp ⟨P, tt, callF, A, st⟩ o.op)) (fun g =>
    onO (nth? all g.1) fun p => onO p.dst fun d => yD (st d) (fun b => .br (b == g.2) (T.nopan (evOp ⟨P, tt, callF, A, st⟩ o.op)) (.ret (.v undef, A))) (.ret (.v undef, A))) o.guard).holds Q Qp := h
  cases hg : o.guard with
  | none => rw [hg] at h; exact .inl ⟨rfl, T.nopan_ok h⟩
  | some g =>
    rw [hg] at h
    obtain ⟨j, want⟩ := g
    obtain ⟨p, hp, h⟩ := onO_ok (show (onO (nth? all j) fun p => onO p.dst fun d => yD (st d) (fun b => .br (b == want) (T.nopan (evOp ⟨P, tt, callF, A, st⟩ o.op)) (.ret (.v undef, A))) (.ret (.v undef, A))).holds Q Qp from h)
    obtain ⟨d, hd, h⟩ := onO_ok h
    rw [nth?_eq] at hp
    refine .inr ⟨j, want, p, d, rfl, hp, hd, ?_⟩
    rcases yD_cases h with ⟨b, hb, h1, h2⟩ | h
    · refine .inl ⟨b, hb, fun e => T.nopan_ok (h1 (by simpa using e)), fun e => h2 (by simpa using e)⟩
    · exact .inr h
theorem drawOp_nopan {all : List Oper} {A : Mem} {st : Tmps} {o : Oper} {Q : AV × Mem → Prop} {Qp : AV → Mem → Prop} (h : (drawOp P tt callF all A st o).holds Q Qp) : (drawOp P tt callF all A st o).holds Q (fun _ _ => False) := by
  have np : ∀ {x : T (AV × Mem)} {Q : AV × Mem → Prop} {Qp : AV → Mem → Prop}, (T.nopan x).holds Q Qp → (T.nopan x).holds Q (fun _ _ => False) := by
    intro x
    induction x with
    | ret a => exact fun h => h
    | br b t e iht ihe => exact fun h => ⟨fun hb => iht (h.1 hb), fun hb => ihe (h.2 hb)⟩
    | pan x M => exact fun h => h
    | ck b t ih => exact fun h => ⟨h.1, ih h.2⟩
    | fail => exact fun h => h
  unfold drawOp at h ⊢
  cases hg : o.guard with
  | none => rw [hg] at h; exact np h
  | some g =>
    rw [hg] at h
    simp only at h ⊢
    cases hp : nth? all g.1 with
    | none => rw [hp] at h; exact h.elim
    | some p =>
      rw [hp] at h
      have h : (onO p.dst fun d => yD (st d) (fun b => .br (b == g.2) (T.nopan (evOp ⟨P, tt, callF, A, st⟩ o.op)) (.ret (.v undef, A))) (.ret (.v undef, A))).holds Q Qp := h
      show (onO p.dst fun d => yD (st d) (fun b => .br (b == g.2) (T.nopan (evOp ⟨P, tt, callF, A, st⟩ o.op)) (.ret (.v undef, A))) (.ret (.v undef, A))).holds Q _
      cases hd : p.dst with
      | none => rw [hd] at h; exact h.elim
      | some d =>
        rw [hd] at h
        have h : (yD (st d) (fun b => .br (b == g.2) (T.nopan (evOp ⟨P, tt, callF, A, st⟩ o.op)) (.ret (.v undef, A))) (.ret (.v undef, A))).holds Q Qp := h
        show (yD (st d) (fun b => .br (b == g.2) (T.nopan (evOp ⟨P, tt, callF, A, st⟩ o.op)) (.ret (.v undef, A))) (.ret (.v undef, A))).holds Q _
        cases hs : st d with
        | b b => rw [hs] at h; exact ⟨fun e => np (h.1 e), fun e => h.2 e⟩
        | v y => rw [hs] at h; obtain ⟨h1, h2⟩ := brn_ok h; exact (show (isBoolV y = true → _) ∧ (isBoolV y = false → _) from ⟨(fun e => by rw [h1] at e; cases e), fun _ => h2⟩)
        | top => rw [hs] at h; exact h.elim
        | _ => rw [hs] at h; exact h

theorem memA_congr {M0 : Mem} {big : Nat} {R R' : DR} {anc j : Nat} (h : ∀ k, Nat.testBit anc k = true → R k = R' k) : memA M0 big R anc j = memA M0 big R' anc j := by
  unfold memA
  congr 1
  funext id
  rw [bif2_eq, bif2_eq, bif2_eq, bif2_eq]
  split
  · rfl
  · split
    · rename_i hb; rw [h _ hb]
    · rfl
theorem stA_congr {R R' : DR} {st0 : Tmps} {anc : Nat} (h : ∀ k, Nat.testBit anc k = true → R k = R' k) (l : List Oper) : ∀ k, stA R st0 anc l k = stA R' st0 anc l k := by
  induction l with
  | nil => intro k; rfl
  | cons o l ih =>
    intro k
    show putA o.dst (stA R st0 anc l (k + 1)) (bif2 (Nat.testBit anc k) (R k).1 .top) = putA o.dst (stA R' st0 anc l (k + 1)) (bif2 (Nat.testBit anc k) (R' k).1 .top)
    rw [ih, bif2_eq, bif2_eq]
    split
    · rename_i hb; rw [h _ hb]
    · rfl

/-- What is told by slots alone, where it is carried out at all. -/
def PW (all : List Oper) (st : Tmps) (o : Oper) : Prop := (o.guard = none → pureV st o.op = true) ∧ ∀ g, o.guard = some g → ∀ p d, all[g.1]? = some p → p.dst = some d → st d = .b g.2 → pureV st o.op = true
theorem drawOpF_ok {all : List Oper} {A : Mem} {st : Tmps} {o : Oper} {Q : (AV × Mem) × Bool → Prop} {Qp : AV → Mem → Prop} (h : (drawOpF P tt callF all A st o).holds Q Qp) :
    (drawOp P tt callF all A st o).holds (fun x => ∃ fl, Q (x, fl) ∧ (fl = true → PW all st o)) Qp := by
  unfold drawOpF at h
  unfold drawOp
  cases hg : o.guard with
  | none =>
    rw [hg] at h
    have h : ((T.nopan (evOp ⟨P, tt, callF, A, st⟩ o.op)).bind fun x => .ret (x, pureV st o.op)).holds Q Qp := h
    rw [T.holds_bind] at h
    refine T.holds_mono h (fun x hx => ⟨_, hx, fun e => ⟨fun _ => e, fun g e' => ?_⟩⟩) fun _ _ h => h
    rw [hg] at e'; cases e'
  | some g =>
    rw [hg] at h
    have h : (onO (nth? all g.1) fun p => onO p.dst fun d => yE (st d) (fun b => .br (b == g.2) ((T.nopan (evOp ⟨P, tt, callF, A, st⟩ o.op)).bind fun x => .ret (x, pureV st o.op)) (.ret ((.v undef, A), true))) (.ret ((.v undef, A), true))).holds Q Qp := h
    show (onO (nth? all g.1) fun p => onO p.dst fun d => yD (st d) (fun b => .br (b == g.2) (T.nopan (evOp ⟨P, tt, callF, A, st⟩ o.op)) (.ret (.v undef, A))) (.ret (.v undef, A))).holds _ Qp
    cases hp : nth? all g.1 with
    | none => rw [hp] at h; exact h.elim
    | some p =>
      rw [hp] at h
      have h : (onO p.dst fun d => yE (st d) (fun b => .br (b == g.2) ((T.nopan (evOp ⟨P, tt, callF, A, st⟩ o.op)).bind fun x => .ret (x, pureV st o.op)) (.ret ((.v undef, A), true))) (.ret ((.v undef, A), true))).holds Q Qp := h
      show (onO p.dst fun d => yD (st d) (fun b => .br (b == g.2) (T.nopan (evOp ⟨P, tt, callF, A, st⟩ o.op)) (.ret (.v undef, A))) (.ret (.v undef, A))).holds _ Qp
      cases hd : p.dst with
      | none => rw [hd] at h; exact h.elim
      | some d =>
        rw [hd] at h
        have h : (yE (st d) (fun b => .br (b == g.2) ((T.nopan (evOp ⟨P, tt, callF, A, st⟩ o.op)).bind fun x => .ret (x, pureV st o.op)) (.ret ((.v undef, A), true))) (.ret ((.v undef, A), true))).holds Q Qp := h
        show (yD (st d) (fun b => .br (b == g.2) (T.nopan (evOp ⟨P, tt, callF, A, st⟩ o.op)) (.ret (.v undef, A))) (.ret (.v undef, A))).holds _ Qp
        rw [nth?_eq] at hp
        have no : (∀ b, st d ≠ .b b) → PW all st o := fun hb => ⟨fun e => by rw [hg] at e; (cases e), fun g' e p' d' h1 h2 h3 => by
          rw [hg] at e; cases e; rw [hp] at h1; cases h1; rw [hd] at h2; cases h2; exact absurd h3 (hb _)⟩
        cases hs : st d with
        | b b =>
          rw [hs] at h
          have h : (T.br (b == g.2) ((T.nopan (evOp ⟨P, tt, callF, A, st⟩ o.op)).bind fun x => .ret (x, pureV st o.op)) (.ret ((.v undef, A), true))).holds Q Qp := h
          refine (show (T.br (b == g.2) (T.nopan (evOp ⟨P, tt, callF, A, st⟩ o.op)) (.ret (.v undef, A))).holds _ Qp from ⟨fun e => ?_, fun e => ?_⟩)
          · have h1 := h.1 e
            have h1 : ((T.nopan (evOp ⟨P, tt, callF, A, st⟩ o.op)).bind fun x => .ret (x, pureV st o.op)).holds Q Qp := h1
            rw [T.holds_bind] at h1
            refine T.holds_mono h1 (fun x hx => ⟨_, hx, fun e => ⟨fun _ => e, fun _ _ _ _ _ _ _ => e⟩⟩) fun _ _ h => h
          · refine (show ∃ fl, Q ((.v undef, A), fl) ∧ (fl = true → PW all st o) from ⟨true, h.2 e, fun _ => ⟨fun e => by rw [hg] at e; (cases e), fun g' e' p' d' h1 h2 h3 => ?_⟩⟩)
            rw [hg] at e'; cases e'; rw [hp] at h1; cases h1; rw [hd] at h2; cases h2
            rw [hs] at h3; cases h3; simp at e
        | v y => rw [hs] at h; obtain ⟨h1, h2⟩ := brn_ok h; exact (show (isBoolV y = true → _) ∧ (isBoolV y = false → _) from ⟨(fun e => by rw [h1] at e; cases e), fun _ => (show ∃ fl, Q ((.v undef, A), fl) ∧ (fl = true → PW all st o) from ⟨true, h2, fun _ => no (by rw [hs]; simp)⟩)⟩)
        | top => rw [hs] at h; exact h.elim
        | _ => rw [hs] at h; exact (show ∃ fl, Q ((.v undef, A), fl) ∧ (fl = true → PW all st o) from ⟨true, h, fun _ => no (by rw [hs]; simp)⟩)
theorem bif2_tt {b c : Bool} (h : bif2 b c false = true) : b = true ∧ c = true := by cases b <;> cases c <;> first | exact ⟨rfl, rfl⟩ | cases h
theorem allTop_get (l : List AV) (h : allTop l = true) : ∀ x ∈ l, x = .top := by
  induction l with
  | nil => intro x hx; cases hx
  | cons y l ih =>
    obtain ⟨h1, h2⟩ := bif2_tt (show bif2 (isTopA y) (allTop l) false = true from h)
    intro x hx
    rcases List.mem_cons.1 hx with rfl | hx
    · cases x <;> first | rfl | cases h1
    · exact ih h2 x hx
theorem noClash_spec {G : GS} {id off sz : Nat} : ∀ (j : Nat), noClash G id off sz j = true → ∀ k, k < j → ∀ id' off' l', G k = some (id', off', l') → id' = id → off + sz ≤ off' ∨ off' + l'.length ≤ off := by
  intro j
  induction j with
  | zero => intro _ k hk; omega
  | succ j ih =>
    intro h k hk id' off' l' hG e
    obtain ⟨h1, h2⟩ := bif2_tt (show bif2 (@Option.rec (Nat × Nat × List AV) (fun _ => Bool) true (fun g => bif2 (Nat.beq g.1 id) (bif2 (Nat.ble (off + sz) g.2.1) true (Nat.ble (g.2.1 + g.2.2.length) off)) true) (G j)) (noClash G id off sz j) false = true from h)
    rcases Nat.lt_or_ge k j with h3 | h3
    · exact ih h2 k h3 id' off' l' hG e
    · obtain rfl : k = j := by omega
      rw [hG] at h1
      subst e
      have h1 : bif2 (Nat.beq id' id') (bif2 (Nat.ble (off + sz) off') true (Nat.ble (off' + l'.length) off)) true = true := h1
      rw [bif2_eq, if_pos (Nat.beq_refl _), bif2_eq] at h1
      split at h1
      · rename_i h4; exact .inl (Nat.le_of_ble_eq_true h4)
      · exact .inr (Nat.le_of_ble_eq_true h1)
/-- A store to what is there. -/
structure FltAt (tt : TT) (M0 A : Mem) (G : GS) (j : Nat) (st : Tmps) (o : Oper) : Prop where
  ex : ∃ t a x id r c e rs cells, o.op = .store t a x ∧ o.guard = none ∧ o.dst = none ∧ (tt t).u ≠ .bad ∧ evA st a = .ptr id r c ∧ A.get id = .own e rs cells ∧ G j = some (id, r * rs + c, (evA st x).cells) ∧
    M0.lock ≤ id ∧ allLeaf (evA st x).cells = true ∧ (evA st x).cells.length = (tt t).size ∧ r * rs + c + (tt t).size ≤ cells.length ∧ (∀ y ∈ (cells.drop (r * rs + c)).take (tt t).size, y = .top) ∧
    ∀ k, k < j → ∀ off' l', G k = some (id, off', l') → r * rs + c + (tt t).size ≤ off' ∨ off' + l'.length ≤ r * rs + c
theorem isStore_some {o : Oper} {t : TypeId} {a x : Operand} (h : isStore o = some (t, a, x)) : o.op = .store t a x ∧ o.guard = none ∧ o.dst = none := by
  unfold isStore at h
  cases ho : o.op with
  | store t' a' x' =>
    rw [ho] at h
    cases hg : o.guard with
    | none =>
      rw [hg] at h
      cases hd : o.dst with
      | none => rw [hd] at h; cases h; exact ⟨rfl, rfl, rfl⟩
      | some d => rw [hd] at h; cases h
    | some g => rw [hg] at h; cases h
  | _ => rw [ho] at h; cases h
theorem fltGo_ok {β : Type} {M0 A : Mem} {st : Tmps} {G : GS} {j : Nat} {t : TypeId} {a x : Operand} {k : Nat × Nat × List AV → T β} {Q : β → Prop} {Qp : AV → Mem → Prop} (h : (fltGo tt M0 A st G j t a x k).holds Q Qp) :
    ∃ id r c e rs cells, evA st a = .ptr id r c ∧ A.get id = .own e rs cells ∧ fltOk M0 G j id (r * rs + c) (tt t).size (evA st x).cells cells = true ∧ (k (id, r * rs + c, (evA st x).cells)).holds Q Qp := by
  obtain ⟨id, r, c, ha, h⟩ := onPtr_ok h
  cases hg : A.get id with
  | own e rs cells =>
    rw [hg] at h
    obtain ⟨h1, h2⟩ := ck_ok h
    exact ⟨id, r, c, e, rs, cells, ha, hg, h1, h2⟩
  | dead => rw [hg] at h; exact h.elim
  | ro a b c => rw [hg] at h; exact h.elim
  | vec a b c => rw [hg] at h; exact h.elim
  | map a b => rw [hg] at h; exact h.elim
theorem fltOk_spec {M0 : Mem} {G : GS} {j id off sz : Nat} {l cells : List AV} (h : fltOk M0 G j id off sz l cells = true) : M0.lock ≤ id ∧ allLeaf l = true ∧ l.length = sz ∧ off + sz ≤ cells.length ∧ (∀ y ∈ (cells.drop off).take sz, y = .top) ∧ noClash G id off sz j = true := by
  unfold fltOk at h
  obtain ⟨h1, h⟩ := bif2_tt h
  obtain ⟨h3, h⟩ := bif2_tt h
  obtain ⟨h4, h⟩ := bif2_tt h
  obtain ⟨h5, h⟩ := bif2_tt h
  obtain ⟨h6, h⟩ := bif2_tt h
  exact ⟨Nat.le_of_ble_eq_true h1, h3, Nat.eq_of_beq_eq_true h4, Nat.le_of_ble_eq_true h5, allTop_get _ h6, h⟩
theorem topM_next (tg : List (Nat × Nat × Nat)) (M : Mem) : (topM tg M).next = M.next := by cases tg <;> rfl
theorem topNew_next (l : List (Nat × Nat)) (x : AV × Mem) : (topNew l x).2.next = x.2.next := by
  cases l with
  | nil => rfl
  | cons p l =>
    obtain ⟨v, M⟩ := x
    cases v <;> first | rfl | exact topM_next _ _
theorem drawGo_ok {all : List Oper} {mk : Nat → Nat} {M0 : Mem} {st0 : Tmps} {big : Nat} {nt : Option Nat → List (Nat × Nat)} (hmk : ∀ j k, Nat.testBit (mk j) k = true → k < j) (l : List Oper) : ∀ {j : Nat} {R : DR} {F : Nat → Bool} {G : GS} {Q : DG → Prop} {Qp : AV → Mem → Prop}
    (_ : ∀ k, j ≤ k → G k = none) (_ : (drawGo P tt callF all mk M0 st0 big nt l j R F G).holds Q Qp), ∃ R' F' G', Q (R', F', G') ∧ (∀ k, k < j → R' k = R k ∧ F' k = F k ∧ G' k = G k) ∧ (∀ k, j + l.length ≤ k → G' k = none) ∧
      ∀ i o, l[i]? = some o → (G' (j + i) = none ∧ (∃ x, (drawOp P tt callF all (memA M0 big R' (mk (j + i)) (j + i)) (stA R' st0 (mk (j + i)) (effL mk (j + i) all 0) 0) o).holds (· = x) (fun _ _ => False) ∧ R' (j + i) = topNew (nt o.dst) x) ∧ (R' (j + i)).2.next ≤ M0.next + (j + i + 1) * big ∧
        (F' (j + i) = true → PW all (stA R' st0 (mk (j + i)) (effL mk (j + i) all 0) 0) o)) ∨ (FltAt tt M0 (memA M0 big R' (mk (j + i)) (j + i)) G' (j + i) (stA R' st0 (mk (j + i)) (effL mk (j + i) all 0) 0) o ∧ R' (j + i) = (.v undef, memA M0 big R' (mk (j + i)) (j + i)) ∧ F' (j + i) = false) := by
  induction l with
  | nil => intro j R F G Q Qp hG h; exact ⟨R, F, G, h, fun _ _ => ⟨rfl, rfl, rfl⟩, fun k hk => hG k (by simpa using hk), by simp⟩
  | cons o l ih =>
    intro j R F G Q Qp hG h
    have h : (@Option.rec (TypeId × Operand × Operand) (fun _ => T DG) ((drawOpF P tt callF all (memA M0 big R (mk j) j) (stA R st0 (mk j) (effL mk j all 0) 0) o).bind fun x =>
        .ck (Nat.ble x.1.2.next (M0.next + (j + 1) * big)) (drawGo P tt callF all mk M0 st0 big nt l (j + 1) (upd R j (topNew (nt o.dst) x.1)) (upd F j x.2) G)) (fun s => onK (tt s.1).u
        (fltGo tt M0 (memA M0 big R (mk j) j) (stA R st0 (mk j) (effL mk j all 0) 0) G j s.1 s.2.1 s.2.2 fun g => drawGo P tt callF all mk M0 st0 big nt l (j + 1) (upd R j (.v undef, memA M0 big R (mk j) j)) (upd F j false) (upd G j (some g)))
        (fltGo tt M0 (memA M0 big R (mk j) j) (stA R st0 (mk j) (effL mk j all 0) 0) G j s.1 s.2.1 s.2.2 fun g => drawGo P tt callF all mk M0 st0 big nt l (j + 1) (upd R j (.v undef, memA M0 big R (mk j) j)) (upd F j false) (upd G j (some g)))) (isStore o)).holds Q Qp := h
    cases hs : isStore o with
    | none =>
      rw [hs] at h
      have h : ((drawOpF P tt callF all (memA M0 big R (mk j) j) (stA R st0 (mk j) (effL mk j all 0) 0) o).bind fun x =>
        .ck (Nat.ble x.1.2.next (M0.next + (j + 1) * big)) (drawGo P tt callF all mk M0 st0 big nt l (j + 1) (upd R j (topNew (nt o.dst) x.1)) (upd F j x.2) G)).holds Q Qp := h
      rw [T.holds_bind] at h
      obtain ⟨x, hx, hh⟩ := T.leaf (drawOp_nopan (drawOpF_ok h))
      obtain ⟨fl, hx, hfl⟩ := hx
      obtain ⟨hn, hrest⟩ := ck_ok (show (T.ck (Nat.ble x.2.next (M0.next + (j + 1) * big)) (drawGo P tt callF all mk M0 st0 big nt l (j + 1) (upd R j (topNew (nt o.dst) x)) (upd F j fl) G)).holds Q Qp from hx)
      obtain ⟨R', F', G', hq, hR, hGn, hall⟩ := ih (fun k hk => hG k (by omega)) hrest
      have hRj : R' j = topNew (nt o.dst) x := by rw [(hR j (by omega)).1, upd_eq, if_pos rfl]
      have hFj : F' j = fl := by rw [(hR j (by omega)).2.1, upd_eq, if_pos rfl]
      have hRlt : ∀ k, k < j → R' k = R k ∧ F' k = F k ∧ G' k = G k := fun k hk => by rw [(hR k (by omega)).1, (hR k (by omega)).2.1, (hR k (by omega)).2.2, upd_eq, upd_eq, if_neg (by omega), if_neg (by omega)]; exact ⟨rfl, rfl, rfl⟩
      refine ⟨R', F', G', hq, hRlt, fun k hk => hGn k (by simp only [List.length_cons] at hk; omega), fun i p hp => ?_⟩
      cases i with
      | zero =>
        simp only [List.getElem?_cons_zero, Option.some.injEq] at hp
        subst hp
        simp only [Nat.add_zero]
        have e1 : memA M0 big R' (mk j) j = memA M0 big R (mk j) j := memA_congr fun k hk => (hRlt k (hmk j k hk)).1
        have e2 : stA R' st0 (mk j) (effL mk j all 0) 0 = stA R st0 (mk j) (effL mk j all 0) 0 := stA_congr (fun k hk => (hRlt k (hmk j k hk)).1) (effL mk j all 0) 0
        rw [e1, e2, hRj, hFj]
        exact .inl ⟨by rw [(hR j (by omega)).2.2]; exact hG j (Nat.le_refl _), ⟨x, hh, rfl⟩, by rw [topNew_next]; exact Nat.le_of_ble_eq_true hn, hfl⟩
      | succ i =>
        have := hall i p (by simpa using hp)
        rwa [show j + 1 + i = j + (i + 1) by omega] at this
    | some s =>
      obtain ⟨t, a, x⟩ := s
      rw [hs] at h
      obtain ⟨hb, h⟩ := onK_both (show (onK (tt t).u (fltGo tt M0 (memA M0 big R (mk j) j) (stA R st0 (mk j) (effL mk j all 0) 0) G j t a x fun g => drawGo P tt callF all mk M0 st0 big nt l (j + 1) (upd R j (.v undef, memA M0 big R (mk j) j)) (upd F j false) (upd G j (some g)))
        (fltGo tt M0 (memA M0 big R (mk j) j) (stA R st0 (mk j) (effL mk j all 0) 0) G j t a x fun g => drawGo P tt callF all mk M0 st0 big nt l (j + 1) (upd R j (.v undef, memA M0 big R (mk j) j)) (upd F j false) (upd G j (some g)))).holds Q Qp from h)
      obtain ⟨id, r, c, e, rs, cells, ha, hg, hok, hrest⟩ := fltGo_ok h
      obtain ⟨R', F', G', hq, hR, hGn, hall⟩ := ih (fun k hk => by rw [upd_eq, if_neg (by omega)]; exact hG k (by omega)) hrest
      have hRj : R' j = (.v undef, memA M0 big R (mk j) j) := by rw [(hR j (by omega)).1, upd_eq, if_pos rfl]
      have hFj : F' j = false := by rw [(hR j (by omega)).2.1, upd_eq, if_pos rfl]
      have hGj : G' j = some (id, r * rs + c, (evA (stA R st0 (mk j) (effL mk j all 0) 0) x).cells) := by rw [(hR j (by omega)).2.2, upd_eq, if_pos rfl]
      have hRlt : ∀ k, k < j → R' k = R k ∧ F' k = F k ∧ G' k = G k := fun k hk => by rw [(hR k (by omega)).1, (hR k (by omega)).2.1, (hR k (by omega)).2.2, upd_eq, upd_eq, upd_eq, if_neg (by omega), if_neg (by omega), if_neg (by omega)]; exact ⟨rfl, rfl, rfl⟩
      refine ⟨R', F', G', hq, hRlt, fun k hk => hGn k (by simp only [List.length_cons] at hk; omega), fun i p hp => ?_⟩
      cases i with
      | zero =>
        simp only [List.getElem?_cons_zero, Option.some.injEq] at hp
        subst hp
        simp only [Nat.add_zero]
        have e1 : memA M0 big R' (mk j) j = memA M0 big R (mk j) j := memA_congr fun k hk => (hRlt k (hmk j k hk)).1
        have e2 : stA R' st0 (mk j) (effL mk j all 0) 0 = stA R st0 (mk j) (effL mk j all 0) 0 := stA_congr (fun k hk => (hRlt k (hmk j k hk)).1) (effL mk j all 0) 0
        obtain ⟨k1, k3, k4, k5, k6, k7⟩ := fltOk_spec hok
        obtain ⟨o1, o2, o3⟩ := isStore_some hs
        rw [e1, e2, hRj, hFj]
        exact .inr ⟨⟨t, a, x, id, r, c, e, rs, cells, o1, o2, o3, hb, ha, hg, hGj, k1, k3, k4, k5, k6, fun k hk off' l' hG' => noClash_spec j k7 k hk id off' l' (by rw [← (hRlt k hk).2.2]; exact hG') rfl⟩, rfl, rfl⟩
      | succ i =>
        have := hall i p (by simpa using hp)
        rwa [show j + 1 + i = j + (i + 1) by omega] at this
end
end Go.Eng

set_option autoImplicit false
namespace Go.Eng
open Go Go.RowKit

theorem ancOf_bit (mk : Nat → Nat) (es : List Edge) (k : Nat) : Nat.testBit (ancOf mk es) k = true ↔ ∃ e ∈ es, bindsE e = true ∧ (Nat.testBit (mk e.on) k = true ∨ e.on = k) := by
  induction es with
  | nil => simp [ancOf]
  | cons e es ih =>
    have h : ancOf mk (e :: es) = bif2 (bindsE e) (Nat.lor (Nat.lor (mk e.on) (Nat.shiftLeft 1 e.on)) (ancOf mk es)) (ancOf mk es) := rfl
    rw [h, bif2_eq]
    by_cases hb : bindsE e = true
    · rw [if_pos hb]
      show Nat.testBit ((mk e.on ||| 1 <<< e.on) ||| ancOf mk es) k = true ↔ _
      rw [Nat.testBit_or, Nat.testBit_or, Bool.or_eq_true, Bool.or_eq_true, ih, Nat.one_shiftLeft, Nat.testBit_two_pow]
      simp [hb]
    · rw [if_neg hb, ih]
      simp [hb]

theorem masks_keep (l : List Oper) : ∀ (j : Nat) (mk : Nat → Nat) (k : Nat), k < j → masks l j mk k = mk k := by
  induction l with
  | nil => intro j mk k _; rfl
  | cons o l ih =>
    intro j mk k hk
    show masks l (j + 1) (upd mk j (ancOf mk o.after.toList)) k = mk k
    rw [ih _ _ _ (by omega), upd_eq, if_neg (by omega)]
theorem masks_at (l : List Oper) : ∀ (j : Nat) (mk : Nat → Nat) (_ : edgesOk l j = true) (i : Nat) (o : Oper), l[i]? = some o → masks l j mk (j + i) = ancOf (masks l j mk) o.after.toList := by
  induction l with
  | nil => intro j mk _ i o h; simp at h
  | cons p l ih =>
    intro j mk he i o h
    have he : (p.after.toList.all (fun e => !bindsE e || Nat.blt e.on j) && edgesOk l (j + 1)) = true := he
    obtain ⟨h1, h2⟩ := Bool.and_eq_true_iff.1 he
    have hm : masks (p :: l) j mk = masks l (j + 1) (upd mk j (ancOf mk p.after.toList)) := rfl
    rw [hm]
    cases i with
    | zero =>
      simp only [List.getElem?_cons_zero, Option.some.injEq] at h
      subst h
      have e0 : masks l (j + 1) (upd mk j (ancOf mk p.after.toList)) (j + 0) = ancOf mk p.after.toList := by
        rw [masks_keep _ _ _ _ (by omega), upd_eq, if_pos (Nat.add_zero j)]
      rw [e0]
      -- the masks that it asks are those of the end
      have : ∀ es : List Edge, (∀ e ∈ es, bindsE e = true → e.on < j) → ancOf mk es = ancOf (masks l (j + 1) (upd mk j (ancOf mk p.after.toList))) es := by
        intro es
        induction es with
        | nil => intro _; rfl
        | cons e es ihe =>
          intro hes
          show bif2 (bindsE e) (Nat.lor (Nat.lor (mk e.on) (Nat.shiftLeft 1 e.on)) (ancOf mk es)) (ancOf mk es) =
            bif2 (bindsE e) (Nat.lor (Nat.lor (masks l (j + 1) (upd mk j (ancOf mk p.after.toList)) e.on) (Nat.shiftLeft 1 e.on)) (ancOf (masks l (j + 1) (upd mk j (ancOf mk p.after.toList))) es)) (ancOf (masks l (j + 1) (upd mk j (ancOf mk p.after.toList))) es)
          rw [← ihe (fun e he => hes e (by simp [he])), bif2_eq, bif2_eq]
          split
          · rename_i hb
            have hlt := hes e (by simp) hb
            rw [masks_keep _ _ _ _ (by omega), upd_eq, if_neg (by omega)]
          · rfl
      refine this _ fun e he hb => ?_
      have := List.all_eq_true.1 h1 e he
      rw [hb] at this
      have : Nat.blt e.on j = true := by simpa [-Nat.blt_eq] using this
      exact Nat.le_of_ble_eq_true this
    | succ i =>
      have := ih (j + 1) (upd mk j (ancOf mk p.after.toList)) h2 i o (by simpa using h)
      rwa [show j + 1 + i = j + (i + 1) by omega] at this

structure MaskOk (all : List Oper) (mk : Nat → Nat) : Prop where
  lt : ∀ j k, Nat.testBit (mk j) k = true → k < j
  edge : ∀ j o, all[j]? = some o → ∀ e ∈ o.after, Region.binds .any e = true → Nat.testBit (mk j) e.on = true
  trans : ∀ j k i, Nat.testBit (mk j) k = true → Nat.testBit (mk k) i = true → Nat.testBit (mk j) i = true
  via : ∀ j o, all[j]? = some o → ∀ k, Nat.testBit (mk j) k = true → ∃ e ∈ o.after, Region.binds .any e = true ∧ (Nat.testBit (mk e.on) k = true ∨ e.on = k)
theorem edgesOk_lt {l : List Oper} : ∀ {j : Nat} (_ : edgesOk l j = true) {i : Nat} {o : Oper} (_ : l[i]? = some o) {e : Edge} (_ : e ∈ o.after.toList) (_ : bindsE e = true), e.on < j + i := by
  induction l with
  | nil => intro j _ i o h; simp at h
  | cons p l ih =>
    intro j he i o h e hm hb
    have he : (p.after.toList.all (fun e => !bindsE e || Nat.blt e.on j) && edgesOk l (j + 1)) = true := he
    obtain ⟨h1, h2⟩ := Bool.and_eq_true_iff.1 he
    cases i with
    | zero =>
      simp only [List.getElem?_cons_zero, Option.some.injEq] at h
      subst h
      have := List.all_eq_true.1 h1 e hm
      rw [hb] at this
      have : Nat.blt e.on j = true := by simpa [-Nat.blt_eq] using this
      have := Nat.le_of_ble_eq_true this
      omega
    | succ i =>
      have := ih h2 (i := i) (by simpa using h) hm hb
      omega
theorem masks_over (l : List Oper) : ∀ (j : Nat) (mk : Nat → Nat) (k : Nat), j + l.length ≤ k → masks l j mk k = mk k := by
  induction l with
  | nil => intro j mk k _; rfl
  | cons o l ih =>
    intro j mk k hk
    show masks l (j + 1) (upd mk j (ancOf mk o.after.toList)) k = mk k
    simp only [List.length_cons] at hk
    rw [ih _ _ _ (by omega), upd_eq, if_neg (by omega)]
theorem maskOk {all : List Oper} (h : edgesOk all 0 = true) : MaskOk all (masks all 0 fun _ => 0) := by
  have hat : ∀ j o, all[j]? = some o → masks all 0 (fun _ => 0) j = ancOf (masks all 0 fun _ => 0) o.after.toList := fun j o ho => by
    have := masks_at all 0 (fun _ => 0) h j o ho
    rwa [Nat.zero_add] at this
  have hover : ∀ j, all[j]? = none → masks all 0 (fun _ => 0) j = 0 := fun j hj => masks_over all 0 _ j (by simpa using hj)
  generalize hm : masks all 0 (fun _ => 0) = mk at hat hover
  have hvia : ∀ j o, all[j]? = some o → ∀ k, Nat.testBit (mk j) k = true ↔ ∃ e ∈ o.after.toList, bindsE e = true ∧ (Nat.testBit (mk e.on) k = true ∨ e.on = k) := fun j o ho k => by
    rw [hat j o ho, ancOf_bit]
  have hlt : ∀ j k, Nat.testBit (mk j) k = true → k < j := by
    intro j
    induction j using Nat.strongRecOn with
    | _ j ih =>
      intro k hk
      cases ho : all[j]? with
      | none => rw [hover j ho] at hk; simp at hk
      | some o =>
        obtain ⟨e, he, hb, hh⟩ := (hvia j o ho k).1 hk
        have hlt := edgesOk_lt h ho he hb
        rw [Nat.zero_add] at hlt
        rcases hh with hh | rfl
        · have := ih e.on hlt k hh; omega
        · exact hlt
  refine ⟨hlt, fun j o ho e he hb => (hvia j o ho e.on).2 ⟨e, by simpa using he, hb, .inr rfl⟩, fun j => ?_, fun j o ho k hk => ?_⟩
  · induction j using Nat.strongRecOn with
    | _ j ih =>
      intro k i hk hi
      cases ho : all[j]? with
      | none => rw [hover j ho] at hk; simp at hk
      | some o =>
        obtain ⟨e, he, hb, hh⟩ := (hvia j o ho k).1 hk
        have hlt := edgesOk_lt h ho he hb
        rw [Nat.zero_add] at hlt
        refine (hvia j o ho i).2 ⟨e, he, hb, .inl ?_⟩
        rcases hh with hh | rfl
        · exact ih e.on hlt k i hh hi
        · exact hi
  · obtain ⟨e, he, hb, hh⟩ := (hvia j o ho k).1 hk
    exact ⟨e, by simpa using he, hb, hh⟩

theorem dstsOk_ne {l : List Oper} (h : dstsOk l = true) : ∀ (i j : Nat) (o p : Oper) (d : Tmp), l[i]? = some o → l[j]? = some p → o.dst = some d → p.dst = some d → i = j := by
  induction l with
  | nil => intro i j o p d h; simp at h
  | cons q l ih =>
    have h' : ((match q.dst with | some d => l.all (fun p => !(p.dst == some d)) | none => true) && dstsOk l) = true := h
    obtain ⟨h1, h2⟩ := Bool.and_eq_true_iff.1 h'
    have key : ∀ (j : Nat) (p : Oper) (d : Tmp), l[j]? = some p → q.dst = some d → p.dst = some d → False := by
      intro j p d hj hq hp
      rw [hq] at h1
      have := List.all_eq_true.1 h1 p (List.mem_of_getElem? hj)
      rw [hp] at this; simp at this
    intro i j o p d hi hj ho hp
    cases i with
    | zero =>
      simp only [List.getElem?_cons_zero, Option.some.injEq] at hi
      subst hi
      cases j with
      | zero => rfl
      | succ j => exact (key j p d (by simpa using hj) ho hp).elim
    | succ i =>
      cases j with
      | zero =>
        simp only [List.getElem?_cons_zero, Option.some.injEq] at hj
        subst hj
        exact (key i o d (by simpa using hi) hp ho).elim
      | succ j => rw [ih h2 i j o p d (by simpa using hi) (by simpa using hj) ho hp]

/-- A slot, as it is told. -/
theorem stA_spec {R : DR} {st0 : Tmps} {anc : Nat} (l : List Oper) : ∀ (k t : Nat), (∃ i o, l[i]? = some o ∧ o.dst = some t ∧ stA R st0 anc l k t = if Nat.testBit anc (k + i) = true then (R (k + i)).1 else .top) ∨ ((∀ (i : Nat) (o : Oper), l[i]? = some o → o.dst ≠ some t) ∧ stA R st0 anc l k t = st0 t) := by
  induction l with
  | nil => intro k t; exact .inr ⟨by simp, rfl⟩
  | cons o l ih =>
    intro k t
    have h : stA R st0 anc (o :: l) k = putA o.dst (stA R st0 anc l (k + 1)) (bif2 (Nat.testBit anc k) (R k).1 .top) := rfl
    rw [h]
    by_cases hd : o.dst = some t
    · refine .inl ⟨0, o, rfl, hd, ?_⟩
      rw [putA_eq, hd, Nat.add_zero, bif2_eq]
      simp
    · have e : putA o.dst (stA R st0 anc l (k + 1)) (bif2 (Nat.testBit anc k) (R k).1 .top) t = stA R st0 anc l (k + 1) t := by
        rw [putA_eq]
        cases hh : o.dst with
        | none => rfl
        | some d => simp only; rw [if_neg (by intro e; subst e; exact hd hh)]
      rw [e]
      rcases ih (k + 1) t with ⟨i, p, hp, hpd, hv⟩ | ⟨hno, hv⟩
      · refine .inl ⟨i + 1, p, by simpa using hp, hpd, ?_⟩
        rw [hv, show k + 1 + i = k + (i + 1) by omega]
      · refine .inr ⟨fun i p hp => ?_, hv⟩
        cases i with
        | zero => simp only [List.getElem?_cons_zero, Option.some.injEq] at hp; subst hp; exact hd
        | succ i => exact hno i p (by simpa using hp)
theorem effL_get (mk : Nat → Nat) (j : Nat) (l : List Oper) : ∀ (k i : Nat), (effL mk j l k)[i]? = (l[i]?).map fun o => if Nat.testBit (mk (k + i)) j = true then effO o else o := by
  induction l with
  | nil => intro k i; rfl
  | cons o l ih =>
    intro k i
    show (bif2 (Nat.testBit (mk k) j) (effO o) o :: effL mk j l (k + 1))[i]? = _
    rw [bif2_eq]
    cases i with
    | zero => simp
    | succ i => simp only [List.getElem?_cons_succ]; rw [ih, show k + 1 + i = k + (i + 1) by omega]
/-- A slot, as it is told at operation j. -/
theorem stJ_spec {R : DR} {st0 : Tmps} {anc : Nat} {mk : Nat → Nat} {j : Nat} (l : List Oper) (t : Nat) : (∃ i o, l[i]? = some o ∧ o.dst = some t ∧ stA R st0 anc (effL mk j l 0) 0 t = if Nat.testBit anc i = true then (R i).1 else .top) ∨
    ((∀ (i : Nat) (o : Oper), l[i]? = some o → o.dst = some t → Nat.testBit (mk i) j = true) ∧ stA R st0 anc (effL mk j l 0) 0 t = st0 t) := by
  rcases stA_spec (R := R) (st0 := st0) (anc := anc) (effL mk j l 0) 0 t with ⟨i, o, ho, hd, hv⟩ | ⟨hno, hv⟩
  · rw [effL_get, Option.map_eq_some_iff] at ho
    obtain ⟨p, hp, he⟩ := ho
    simp only [Nat.zero_add] at he hv
    split at he
    · subst he; cases hd
    · subst he; exact .inl ⟨i, p, hp, hd, hv⟩
  · refine .inr ⟨fun i o ho hd => ?_, hv⟩
    cases hb : Nat.testBit (mk i) j with
    | true => rfl
    | false => exact absurd hd (hno i o (by rw [effL_get, ho]; simp [hb]))
end Go.Eng

set_option autoImplicit false
namespace Go.Eng
open Go Go.RowKit

open Classical in
noncomputable def restr (φ : Phi) (p : Nat → Prop) : Phi := fun id => if p id then φ id else none
theorem restr_some {φ : Phi} {p : Nat → Prop} {id : Nat} {x : Option Pl} (h : restr φ p id = some x) : p id ∧ φ id = some x := by
  unfold restr at h
  split at h
  · exact ⟨by assumption, h⟩
  · cases h
theorem restr_of {φ : Phi} {p : Nat → Prop} {id : Nat} (h : p id) : restr φ p id = φ id := if_pos h
theorem restr_not {φ : Phi} {p : Nat → Prop} {id : Nat} (h : ¬ p id) : restr φ p id = none := if_neg h
theorem restr_le {φ : Phi} {p q : Nat → Prop} (h : ∀ id, p id → q id) : PhiLe (restr φ p) (restr φ q) := fun id x e => by
  obtain ⟨h1, h2⟩ := restr_some e
  rw [restr_of (h id h1)]; exact h2
theorem restr_le' {φ : Phi} {p : Nat → Prop} : PhiLe (restr φ p) φ := fun _ _ e => (restr_some e).2
theorem restr_ge {φ φ0 : Phi} {p : Nat → Prop} {n : Nat} (h : ∀ id, id < n → φ id = φ0 id) (h0 : ∀ id, n ≤ id → φ0 id = none) (hp : ∀ id, id < n → p id) : PhiLe φ0 (restr φ p) := fun id x e => by
  by_cases hid : id < n
  · rw [restr_of (hp id hid), h id hid]; exact e
  · rw [h0 id (by omega)] at e; cases e

section
variable {P : Program} {tt : TT} {callF : FuncId → List AV → Mem → T (AV × Mem)} {N : NB} {n : Nat} {ds : List Deferred} {ops : Array Oper} {mk : Nat → Nat} {big : Nat} {M0 : Mem} {st0 : Tmps} {φ0 : Phi} {w0 : World} {m : Nat} {R : DR} {G : GS}

def ow (M0 : Mem) (big id : Nat) : Nat := (id - M0.next) / big
def domA (mk : Nat → Nat) (M0 : Mem) (big j id : Nat) : Prop := id < M0.next ∨ Nat.testBit (mk j) (ow M0 big id) = true
def domP (mk : Nat → Nat) (M0 : Mem) (big k id : Nat) : Prop := id < M0.next ∨ ow M0 big id = k ∨ Nat.testBit (mk k) (ow M0 big id) = true
def ownS (M0 : Mem) (big : Nat) (R : DR) (listed : Nat → Prop) (id : Nat) : Prop := (id < M0.next ∧ isOwn (M0.get id)) ∨ (M0.next ≤ id ∧ listed (ow M0 big id) ∧ isOwn ((R (ow M0 big id)).2.get id))

/-- What operation k laid itself. -/
def onlyM (M0 : Mem) (big k : Nat) (M : Mem) : Mem := ⟨M.next, M.lock, fun id => if M0.next ≤ id ∧ ow M0 big id = k then M.get id else .dead⟩
theorem onlyM_get {M0 M : Mem} {big k id : Nat} (h : M0.next ≤ id) (h2 : ow M0 big id = k) : (onlyM M0 big k M).get id = M.get id := if_pos ⟨h, h2⟩
theorem onlyM_own {M0 M : Mem} {big k id : Nat} (h : isOwn ((onlyM M0 big k M).get id)) : M0.next ≤ id ∧ ow M0 big id = k ∧ isOwn (M.get id) := by
  have h : isOwn (if M0.next ≤ id ∧ ow M0 big id = k then M.get id else .dead) := h
  split at h
  · rename_i h1; exact ⟨h1.1, h1.2, h⟩
  · exact h.elim
theorem Rep.only {N : NB} {φ : Phi} {M0 M : Mem} {big k : Nat} {w : World} (h : Rep N φ M w) : Rep N φ (onlyM M0 big k M) w := by
  refine ⟨fun id => ?_, fun id id' p p' h1 h2 => h.sep id id' p p' (onlyM_own h1).2.2 (onlyM_own h2).2.2, fun id p h1 => h.high id p (onlyM_own h1).2.2, fun id hid => ⟨?_, (h.fresh id hid).2⟩, h.size⟩
  · show ObjRel N φ w id (if M0.next ≤ id ∧ ow M0 big id = k then M.get id else .dead)
    split
    · exact h.objs id
    · exact h.glob
  · show (if M0.next ≤ id ∧ ow M0 big id = k then M.get id else .dead) = .dead
    split
    · exact (h.fresh id hid).1
    · rfl
/-- The stores to what is there, or is laid here. -/
structure GOk (mk : Nat → Nat) (big : Nat) (M0 : Mem) (φ0 : Phi) (w0 : World) (R : DR) (G : GS) : Prop where
  at' : ∀ k id off l, G k = some (id, off, l) → ∃ e rs cells, (memA M0 big R (mk k) k).get id = .own e rs cells ∧ off + l.length ≤ cells.length ∧
    (∀ y ∈ (cells.drop off).take l.length, y = .top) ∧ M0.lock ≤ id ∧ allLeaf l = true
  old : ∀ id, id < M0.next → isOwn (M0.get id) → ∃ p, φ0 id = some (some p) ∧ p.b < w0.heap.size
  dis : ∀ k k' id off l off' l', k < k' → G k = some (id, off', l') → G k' = some (id, off, l) → off + l.length ≤ off' ∨ off' + l'.length ≤ off

structure DInv (N : NB) (n : Nat) (ds : List Deferred) (ops : Array Oper) (mk : Nat → Nat) (big : Nat) (M0 : Mem) (st0 : Tmps) (φ0 : Phi) (w0 : World) (m : Nat) (R : DR) (G : GS) (listed : Nat → Prop) (φ : Phi) (w : World) (a : Act) : Prop where
  i1 : ∀ id, id < M0.next → φ id = φ0 id
  i2 : ∀ id, M0.next ≤ id → φ id ≠ none → listed (ow M0 big id)
  im : ∀ k, listed k → k < m
  ir : ∀ k, listed k → Rep N (restr φ (domP mk M0 big k)) (onlyM M0 big k (R k).2) w
  iv : ∀ k, listed k → ∀ o d, ops[k]? = some o → o.dst = some d → AVRel (restr φ (domP mk M0 big k)) (R k).1 (a.tmps.getD d undef)
  i4 : ∀ t, (∀ k o, listed k → ops[k]? = some o → o.dst ≠ some t) → AVRel φ0 (st0 t) (a.tmps.getD t undef)
  i5 : ∀ id id' p p', ownS M0 big R listed id → ownS M0 big R listed id' → φ id = some (some p) → φ id' = some (some p') → p.b = p'.b → id = id'
  i6 : Rep N φ0 M0 w
  keep : ∀ b, b < w0.heap.size → (∀ k id off l p, G k = some (id, off, l) → φ0 id = some (some p) → p.b ≠ b) → w.heap[b]? = w0.heap[b]?
  fs : ∀ k, listed k → ∀ id off l p, G k = some (id, off, l) → φ id = some (some p) → ∀ i y, l[i]? = some y → ∃ z, w.cell? ⟨p.b, off + i, none⟩ = some z ∧ AVRel (restr φ (domA mk M0 big k)) y z
  os : w.os = w0.os
  tape : w.tape = w0.tape
  output : w.output = w0.output
  wsize : w0.heap.size ≤ w.heap.size
  size : a.tmps.size = n
  defers : a.defers = ds
  i9 : ∀ id p, M0.next ≤ id → ownS M0 big R listed id → φ id = some (some p) → w0.heap.size ≤ p.b
  cl : ∀ k, listed k → ∀ i, Nat.testBit (mk k) i = true → listed i

theorem ow_lt {id j : Nat} (hbig : 0 < big) : ow M0 big id < j ↔ id < M0.next + j * big ∧ (M0.next ≤ id ∨ 0 < j) := by
  unfold ow
  rw [Nat.div_lt_iff_lt_mul hbig]
  constructor
  · intro h
    rcases Nat.eq_zero_or_pos j with e | e
    · subst e; simp at h
    · generalize j * big = x at *; omega
  · rintro ⟨h, hj⟩
    rcases Nat.lt_or_ge id M0.next with h' | h'
    · have : 0 < j * big := Nat.mul_pos (by omega) hbig
      generalize j * big = x at *; omega
    · generalize j * big = x at *; omega
theorem ow_eq_range {id j : Nat} (hbig : 0 < big) (h : M0.next ≤ id) : ow M0 big id = j ↔ M0.next + j * big ≤ id ∧ id < M0.next + (j + 1) * big := by
  unfold ow
  constructor
  · rintro rfl
    have h1 := Nat.div_mul_le_self (id - M0.next) big
    have h2 := Nat.lt_succ_iff.2 (Nat.le_refl ((id - M0.next) / big))
    have h3 := (Nat.div_lt_iff_lt_mul hbig).1 h2
    have : Nat.succ ((id - M0.next) / big) = (id - M0.next) / big + 1 := rfl
    rw [this] at h3
    omega
  · rintro ⟨h1, h2⟩
    have h3 : (id - M0.next) / big < j + 1 := (Nat.div_lt_iff_lt_mul hbig).2 (by omega)
    have h4 : j ≤ (id - M0.next) / big := (Nat.le_div_iff_mul_le hbig).2 (by omega)
    omega

theorem memA_get (anc j id : Nat) : (memA M0 big R anc j).get id = if id < M0.next then M0.get id else if Nat.testBit anc (ow M0 big id) = true then (R (ow M0 big id)).2.get id else .dead := by
  show bif2 (Nat.blt id M0.next) (M0.get id) (bif2 (Nat.testBit anc (ow M0 big id)) ((R (ow M0 big id)).2.get id) .dead) = _
  rw [bif2_eq, bif2_eq]
  by_cases h : id < M0.next
  · rw [if_pos h, if_pos (show Nat.blt id M0.next = true from Nat.ble_eq_true_of_le h)]
  · rw [if_neg h, if_neg (show ¬ Nat.blt id M0.next = true from fun e => h (Nat.le_of_ble_eq_true e))]
/-- What operation j is told is there. -/
theorem DInv.repA (hm : MaskOk ops.toList mk) (hbig : 0 < big) {listed : Nat → Prop} {φ : Phi} {w : World} {a : Act} (h : DInv N n ds ops mk big M0 st0 φ0 w0 m R G listed φ w a) {j : Nat} (hanc : ∀ i, Nat.testBit (mk j) i = true → listed i) :
    Rep N (restr φ (domA mk M0 big j)) (memA M0 big R (mk j) j) w := by
  have h0 : ∀ id, M0.next ≤ id → φ0 id = none := fun id hid => (h.i6.fresh id hid).2
  have toS : ∀ id, isOwn ((memA M0 big R (mk j) j).get id) → ownS M0 big R listed id := by
    intro id ho
    rw [memA_get] at ho
    split at ho
    · exact .inl ⟨by assumption, ho⟩
    · split at ho
      · rename_i h1 h2; exact .inr ⟨by omega, hanc _ h2, ho⟩
      · exact ho.elim
  refine ⟨fun id => ?_, fun id id' p p' ho ho' hp hp' e => ?_, fun id p ho hp => ?_, fun id hid => ?_, h.i6.size⟩
  · rw [memA_get]
    split
    · exact (h.i6.objs id).step (restr_ge h.i1 h0 fun id hid => .inl hid) (fun _ _ => rfl) (fun _ _ _ => rfl)
    · split
      · rename_i h1 h2
        have hob := (h.ir _ (hanc _ h2)).objs id
        rw [onlyM_get (by omega) rfl] at hob
        refine hob.step (restr_le fun id' hid' => ?_) (fun _ _ => rfl) (fun _ _ _ => rfl)
        rcases hid' with hid' | hid' | hid'
        · exact .inl hid'
        · right; rw [hid']; exact h2
        · right; exact hm.trans _ _ _ h2 hid'
      · exact h.i6.glob
  · exact h.i5 id id' p p' (toS id ho) (toS id' ho') (restr_some hp).2 (restr_some hp').2 e
  · have hp := (restr_some hp).2
    rw [memA_get] at ho
    split at ho
    · rename_i h1
      rw [h.i1 id h1] at hp
      exact h.i6.high id p ho hp
    · split at ho
      · rename_i h1 h2
        refine (h.ir _ (hanc _ h2)).high id p (by rw [onlyM_get (by omega) rfl]; exact ho) ?_
        rw [restr_of (.inr (.inl rfl))]; exact hp
      · exact ho.elim
  · have hid : M0.next + j * big ≤ id := hid
    have h1 : ¬ id < M0.next := by omega
    have h2 : ¬ Nat.testBit (mk j) (ow M0 big id) = true := by
      intro hb
      have := hm.lt _ _ hb
      rw [ow_lt hbig] at this
      omega
    refine ⟨by rw [memA_get, if_neg h1, if_neg h2], restr_not ?_⟩
    rintro (h3 | h3)
    · exact h1 h3
    · exact h2 h3

theorem DInv.tmpsA (hm : MaskOk ops.toList mk) (hd : dstsOk ops.toList = true) {listed : Nat → Prop} {φ : Phi} {w : World} {a : Act} (h : DInv N n ds ops mk big M0 st0 φ0 w0 m R G listed φ w a) {j : Nat} (hanc : ∀ i, Nat.testBit (mk j) i = true → listed i) (hnl : ¬ listed j) :
    TmpsRel (restr φ (domA mk M0 big j)) (stA R st0 (mk j) (effL mk j ops.toList 0) 0) a.tmps := by
  have h0 : ∀ id, M0.next ≤ id → φ0 id = none := fun id hid => (h.i6.fresh id hid).2
  intro t
  rcases stJ_spec (R := R) (st0 := st0) (anc := mk j) (mk := mk) (j := j) ops.toList t with ⟨i, o, ho, hdt, hv⟩ | ⟨hno, hv⟩
  · rw [hv]
    split
    · rename_i hb
      refine (h.iv i (hanc i hb) o t (by simpa using ho) hdt).mono (restr_le fun id' hid' => ?_)
      rcases hid' with hid' | hid' | hid'
      · exact .inl hid'
      · right; rw [hid']; exact hb
      · right; exact hm.trans _ _ _ hb hid'
    · exact .top _
  · rw [hv]
    exact (h.i4 t fun k o hk ho hot => hnl (h.cl k hk j (hno k o (by simpa using ho) hot))).mono (restr_ge h.i1 h0 fun id hid => .inl hid)

theorem own_lt {N : NB} {φ : Phi} {M : Mem} {w : World} (h : Rep N φ M w) {id : Nat} {p : Pl} (ho : isOwn (M.get id)) (hp : φ id = some (some p)) : p.b < w.heap.size := by
  have := h.objs id
  cases hg : M.get id with
  | dead => rw [hg] at ho; exact ho.elim
  | ro => rw [hg] at ho; exact ho.elim
  | own e rs cells => rw [hg] at this; obtain ⟨p', hp', _, _, h2, _⟩ := this; rw [hp] at hp'; cases hp'; exact h2.lt
  | vec e n cols => rw [hg] at this; obtain ⟨_, p', hp', _, _, h2, _⟩ := this; rw [hp] at hp'; cases hp'; exact h2.lt
  | map es cl => rw [hg] at this; obtain ⟨p', hp', _, h2⟩ := this; rw [hp] at hp'; cases hp'; exact (Array.getElem?_eq_some_iff.1 h2).1
theorem Rep.same {N : NB} {φ : Phi} {M : Mem} {w w' : World} (h : Rep N φ M w) (hk : ∀ b, b < w.heap.size → w'.heap[b]? = w.heap[b]?) (hs : w.heap.size ≤ w'.heap.size) : Rep N φ M w' :=
  ⟨fun id => (h.objs id).step (.refl _) (fun b hb => hk b (Nat.lt_of_lt_of_le hb h.size)) (fun ho p hp => hk _ (own_lt h ho hp)), h.sep, h.high, h.fresh, Nat.le_trans h.size hs⟩

theorem cell?_lt {w : World} {a : Addr} {z : Value} (h : w.cell? a = some z) : a.block < w.heap.size := by
  simp only [World.cell?] at h
  rcases Nat.lt_or_ge a.block w.heap.size with h1 | h1
  · exact h1
  · rw [Array.getElem?_eq_none h1] at h; simp at h
/-- Behind operation j. -/
theorem DInv.after (hm : MaskOk ops.toList mk) (hd : dstsOk ops.toList = true) (hbig : 0 < big) {listed : Nat → Prop} {φ : Phi} {w : World} {a : Act} (h : DInv N n ds ops mk big M0 st0 φ0 w0 m R G listed φ w a)
    {j : Nat} (hj : j < m) {o : Oper} (ho : ops[j]? = some o) (hdn : ∀ d, o.dst = some d → d < n) (hnl : ¬ listed j) (hanc : ∀ i, Nat.testBit (mk j) i = true → listed i) (hnext : (R j).2.next ≤ M0.next + (j + 1) * big) (gok : GOk mk big M0 φ0 w0 R G) (hGj : G j = none)
    {v : Value} {w' : World} (hg : Good N (restr φ (domA mk M0 big j)) (memA M0 big R (mk j) j) w (· = R j) v w') :
    ∃ φn, DInv N n ds ops mk big M0 st0 φ0 w0 m R G (fun k => listed k ∨ k = j) φn w' (a.put o.dst v) := by
  obtain ⟨φ', x, M', hq, hv, hr', he⟩ := hg
  have hq1 : (R j).1 = x := by rw [← hq]
  have hq2 : (R j).2 = M' := by rw [← hq]
  subst hq1 hq2
  have hA := h.repA hm hbig hanc
  have h0 : ∀ id, M0.next ≤ id → φ0 id = none := fun id hid => (h.i6.fresh id hid).2
  -- all blocks stay
  have hkeep : ∀ b, b < w.heap.size → w'.heap[b]? = w.heap[b]? := by
    intro b hb
    refine he.keep b hb ?_
    intro id p hl hown _ _
    have hl : M0.next + j * big ≤ id := hl
    rw [(hA.fresh id hl).1] at hown
    exact hown
  have hAnext : (memA M0 big R (mk j) j).next = M0.next + j * big := rfl
  let φn : Phi := fun id => if M0.next ≤ id ∧ ow M0 big id = j then φ' id else φ id
  have hn1 : ∀ id, M0.next ≤ id → ow M0 big id = j → φn id = φ' id := fun id h1 h2 => if_pos ⟨h1, h2⟩
  have hn2 : ∀ id, (id < M0.next ∨ ow M0 big id ≠ j) → φn id = φ id := fun id h1 => if_neg (by rintro ⟨h2, h3⟩; rcases h1 with h1 | h1 <;> omega)
  have hφ'lt : ∀ id, id < M0.next + j * big → φ' id = restr φ (domA mk M0 big j) id := fun id hid => he.phi0 id hid
  have hjj : Nat.testBit (mk j) j = false := by
    cases hb : Nat.testBit (mk j) j with
    | false => rfl
    | true => have := hm.lt _ _ hb; omega
  -- what operation j's part of the places is
  have hrj : restr φn (domP mk M0 big j) = φ' := by
    funext id
    by_cases h1 : id < M0.next
    · rw [restr_of (.inl h1), hn2 id (.inl h1), hφ'lt id (by omega), restr_of (.inl h1)]
    · by_cases h2 : ow M0 big id = j
      · rw [restr_of (.inr (.inl h2)), hn1 id (by omega) h2]
      · by_cases h3 : Nat.testBit (mk j) (ow M0 big id) = true
        · rw [restr_of (.inr (.inr h3)), hn2 id (.inr h2)]
          have hlt := hm.lt _ _ h3
          rw [ow_lt hbig] at hlt
          rw [hφ'lt id (by omega), restr_of (.inr h3)]
        · rw [restr_not (fun h4 => h4.elim h1 fun h4 => h4.elim h2 h3)]
          by_cases h4 : id < M0.next + j * big
          · rw [hφ'lt id h4, restr_not (fun h5 => h5.elim h1 h3)]
          · have h5 : M0.next + (j + 1) * big ≤ id := by
              rcases Nat.lt_or_ge id (M0.next + (j + 1) * big) with h6 | h6
              · exact absurd ((ow_eq_range hbig (by omega)).2 ⟨by omega, h6⟩) h2
              · exact h6
            exact ((hr'.fresh id (Nat.le_trans hnext h5)).2).symm
  have hrk : ∀ k, listed k → restr φn (domP mk M0 big k) = restr φ (domP mk M0 big k) := by
    intro k hk
    funext id
    by_cases hp : domP mk M0 big k id
    · rw [restr_of hp, restr_of hp]
      refine hn2 id ?_
      rcases hp with hp | hp | hp
      · exact .inl hp
      · right; rw [hp]; intro e; subst e; exact hnl hk
      · right; intro e; rw [e] at hp; exact hnl (h.cl k hk j hp)
    · rw [restr_not hp, restr_not hp]
  have hownj : ∀ id p, M0.next ≤ id → ow M0 big id = j → isOwn ((R j).2.get id) → φ' id = some (some p) → w.heap.size ≤ p.b := by
    intro id p h1 h2 h3 h4
    rcases Nat.lt_or_ge p.b w.heap.size with h5 | h5
    · obtain ⟨id', p', h6, _, _, h7⟩ := he.old id p h3 h4 h5
      have := (ow_eq_range hbig h1).1 h2
      have h8 : M0.next + j * big ≤ id' := h7 this.1
      rw [(hA.fresh id' h8).1] at h6
      exact h6.elim
    · exact h5
  have hownk : ∀ id p, ownS M0 big R listed id → φ id = some (some p) → p.b < w.heap.size := by
    intro id p h1 h2
    rcases h1 with ⟨h1, h3⟩ | ⟨h1, h3, h4⟩
    · rw [h.i1 id h1] at h2; exact own_lt h.i6 h3 h2
    · refine own_lt (id := id) (h.ir _ h3) (by rw [onlyM_get h1 rfl]; exact h4) ?_
      rw [restr_of (.inr (.inl rfl))]; exact h2
  have hcase : ∀ id, ownS M0 big R (fun k => listed k ∨ k = j) id → (ownS M0 big R listed id ∧ (id < M0.next ∨ ow M0 big id ≠ j)) ∨ (M0.next ≤ id ∧ ow M0 big id = j ∧ isOwn ((R j).2.get id)) := by
    intro id hid
    rcases hid with ⟨h1, h2⟩ | ⟨h1, h2, h3⟩
    · exact .inl ⟨.inl ⟨h1, h2⟩, .inl h1⟩
    · by_cases e : ow M0 big id = j
      · right; refine ⟨h1, e, ?_⟩; rw [e] at h3; exact h3
      · rcases h2 with h2 | h2
        · exact .inl ⟨.inr ⟨h1, h2, h3⟩, .inr e⟩
        · exact absurd h2 e
  refine ⟨φn, fun id hid => by rw [hn2 id (.inl hid)]; exact h.i1 id hid, fun id hid hne => ?_, fun k hk => ?_, fun k hk => ?_, fun k hk o' d ho' hd' => ?_, fun t ht => ?_, fun id id' p p' ho1 ho2 hp hp' e => ?_, h.i6.same hkeep he.size,
    fun b hb hno => (hkeep b (Nat.lt_of_lt_of_le hb h.wsize)).trans (h.keep b hb hno), fun k hk id off l p hG hp i y hy => ?_, he.os.trans h.os, he.tape.trans h.tape, he.output.trans h.output, Nat.le_trans h.wsize he.size, (put_size ..).trans h.size, (put_defers ..).trans h.defers, fun id p hid ho1 hp => ?_, fun k hk i hi => ?_⟩
  · by_cases e : ow M0 big id = j
    · exact .inr e
    · rw [hn2 id (.inr e)] at hne; exact .inl (h.i2 id hid hne)
  · rcases hk with hk | rfl
    · exact h.im k hk
    · exact hj
  · rcases hk with hk | rfl
    · rw [hrk k hk]; exact (h.ir k hk).same hkeep he.size
    · rw [hrj]; exact hr'.only
  · rcases hk with hk | rfl
    · rw [hrk k hk]
      have hne : k ≠ j := fun e => hnl (e ▸ hk)
      have := h.iv k hk o' d ho' hd'
      have hsame : (a.put o.dst v).tmps.getD d undef = a.tmps.getD d undef := by
        cases hod : o.dst with
        | none => rfl
        | some d2 =>
          have : d2 ≠ d := by
            intro e; subst e
            exact hne (dstsOk_ne hd k j o' o d2 (by simpa using ho') (by simpa using ho) hd' hod)
          simp only [Act.put, Array.getD_eq_getD_getElem?, Array.getElem?_setIfInBounds, if_neg this]
      rw [hsame]; exact this
    · rw [hrj]
      rw [ho] at ho'; cases ho'
      have hlt : d < a.tmps.size := by rw [h.size]; exact hdn d hd'
      have : (a.put o.dst v).tmps.getD d undef = v := by rw [hd']; simp [Act.put, hlt]
      rw [this]; exact hv
  · have hsame : (a.put o.dst v).tmps.getD t undef = a.tmps.getD t undef := by
      have hne := ht j o (.inr rfl) ho
      cases hod : o.dst with
      | none => rfl
      | some d2 =>
        have : d2 ≠ t := fun e => hne (by rw [hod, e])
        simp only [Act.put, Array.getD_eq_getD_getElem?, Array.getElem?_setIfInBounds, if_neg this]
    rw [hsame]
    exact h.i4 t fun k o hk ho => ht k o (.inl hk) ho
  · rcases hcase id ho1 with ⟨h1, h2⟩ | ⟨h1, h2, h3⟩ <;> rcases hcase id' ho2 with ⟨h4, h5⟩ | ⟨h4, h5, h6⟩
    · rw [hn2 id h2] at hp; rw [hn2 id' h5] at hp'
      exact h.i5 id id' p p' h1 h4 hp hp' e
    · rw [hn2 id h2] at hp; rw [hn1 id' h4 h5] at hp'
      have k1 := hownk id p h1 hp
      have k2 := hownj id' p' h4 h5 h6 hp'
      omega
    · rw [hn1 id h1 h2] at hp; rw [hn2 id' h5] at hp'
      have k1 := hownk id' p' h4 hp'
      have k2 := hownj id p h1 h2 h3 hp
      omega
    · rw [hn1 id h1 h2] at hp; rw [hn1 id' h4 h5] at hp'
      exact hr'.sep id id' p p' h3 h6 hp hp' e
  · rcases hk with hk | rfl
    · have hpk : φn id = φ id := by
        refine hn2 id ?_
        obtain ⟨e', rs', cells', g1, _⟩ := gok.at' k id off l hG
        rw [memA_get] at g1
        split at g1
        · left; assumption
        · split at g1
          · rename_i hb
            right; intro e; rw [e] at hb; exact hnl (h.cl k hk j hb)
          · cases g1
      rw [hpk] at hp
      obtain ⟨z, hz, hzr⟩ := h.fs k hk id off l p hG hp i y hy
      have hpb : p.b < w.heap.size := by
        have : (w.cell? ⟨p.b, off + i, none⟩).isSome = true := by rw [hz]; rfl
        exact (cell?_lt hz)
      refine ⟨z, by simp only [World.cell?, hkeep p.b hpb]; exact hz, ?_⟩
      have e : restr φn (domA mk M0 big k) = restr φ (domA mk M0 big k) := by
        funext id
        by_cases hp : domA mk M0 big k id
        · rw [restr_of hp, restr_of hp]
          refine hn2 id ?_
          rcases hp with hp | hp
          · exact .inl hp
          · right; intro e; rw [e] at hp; exact hnl (h.cl k hk j hp)
        · rw [restr_not hp, restr_not hp]
      rw [e]; exact hzr
    · rw [hGj] at hG; cases hG
  · rcases hcase id ho1 with ⟨h1, h2⟩ | ⟨h1, h2, h3⟩
    · rw [hn2 id h2] at hp; exact h.i9 id p hid h1 hp
    · rw [hn1 id h1 h2] at hp
      exact Nat.le_trans h.wsize (hownj id p h1 h2 h3 hp)
  · rcases hk with hk | rfl
    · exact .inl (h.cl k hk i hi)
    · exact .inl (hanc i hi)
end
end Go.Eng
