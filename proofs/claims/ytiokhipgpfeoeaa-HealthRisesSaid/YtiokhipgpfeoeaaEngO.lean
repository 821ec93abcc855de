/- Lemmas about the evaluator of the code. -/
import Derived.Test.YtiokhipgpfeoeaaEngL
import Derived.ProofKit
import Derived.OpenShut
set_option linter.all false
set_option linter.deprecated false
set_option autoImplicit false
namespace Go.Eng
open Go Go.RowKit

/-! ## What an argument holds -/
/-- The kind of a cell. -/
inductive SK where
  | int (k : IntKind) | bool | str | flt (k : FloatKind) | sl (m : Nat) (ks : Nat → SK)
inductive CellOk (w : World) : SK → Value → Prop
  | int (k : IntKind) (n : Int) (h : (Lit.int k n).wf = true) : CellOk w (.int k) (.int k n)
  | bool (b : Bool) : CellOk w .bool (.bool b)
  | str (s : ByteArray) (h : s.size ≤ maxLen) : CellOk w .str (.string s)
  | flt (k : FloatKind) (b : Nat) (h : (Lit.float k b).wf = true) : CellOk w (.flt k) (.float k b)
  | slnil (m : Nat) (ks : Nat → SK) : CellOk w (.sl m ks) (.slice none 0 0)
  | sl (m : Nat) (ks : Nat → SK) (a : Addr) (len cap : Nat) (z : Nat → Nat → Value) (h1 : len ≤ cap) (h2 : cap ≤ maxLen) (hsp : 0 < len → a.block < w.heap.size ∧ a.spot = none)
      (hz : ∀ j, j < len → ∀ c, c < m → w.cell? ⟨a.block, a.off + (j * m + c), none⟩ = some (z j c)) (hc : ∀ j, j < len → ∀ c, c < m → CellOk w (ks c) (z j c)) : CellOk w (.sl m ks) (.slice (some a) len cap)

def shapeFs (P : Program) (sh : TypeId → Option (List SK)) : List Field → Nat → Option (List SK)
  | [], _ => some []
  | f :: fs, off => (sh f.type).bind fun l => if f.offset = off ∧ l.length = P.cellsOf f.type then (shapeFs P sh fs (off + l.length)).map (l ++ ·) else none
def repL {α : Type} (l : List α) : Nat → List α
  | 0 => []
  | n + 1 => l ++ repL l n
def shapeL (P : Program) : Nat → TypeId → Option (List SK)
  | 0, _ => none
  | g + 1, t => match P.underlying t with
    | some .bool => some [.bool]
    | some (.int k) => some [.int k]
    | some (.float k) => some [.flt k]
    | some .string => some [.str]
    | some (.slice e) => (shapeL P g e).bind fun l => if l.length = P.cellsOf e ∧ 0 < l.length then some [.sl l.length fun c => l.getD c .bool] else none
    | some (.struct fs) => (shapeFs P (shapeL P g) fs.toList 0).bind fun l => if l.length = P.cellsOf t then some l else none
    | some (.array n e) => (shapeL P g e).bind fun l => if l.length = P.cellsOf e ∧ n * l.length = P.cellsOf t then some (repL l n) else none
    | _ => none

def CellsOk (w : World) (ks : List SK) (cs : List Value) : Prop := cs.length = ks.length ∧ ∀ (c : Nat) (k : SK) (v : Value), ks[c]? = some k → cs[c]? = some v → CellOk w k v
theorem CellsOk.one {w : World} {k : SK} {v : Value} (h : CellOk w k v) : CellsOk w [k] [v] := by
  refine ⟨rfl, fun c k' v' hk hv => ?_⟩
  cases c with
  | zero => simp at hk hv; subst hk; subst hv; exact h
  | succ c => simp at hk
theorem CellsOk.app {w : World} {k1 k2 : List SK} {c1 c2 : List Value} (h1 : CellsOk w k1 c1) (h2 : CellsOk w k2 c2) : CellsOk w (k1 ++ k2) (c1 ++ c2) := by
  refine ⟨by simp [h1.1, h2.1], fun c k v hk hv => ?_⟩
  by_cases hc : c < k1.length
  · rw [List.getElem?_append_left hc] at hk
    rw [List.getElem?_append_left (by rw [h1.1]; exact hc)] at hv
    exact h1.2 c k v hk hv
  · rw [List.getElem?_append_right (by omega)] at hk
    rw [List.getElem?_append_right (by rw [h1.1]; omega), h1.1] at hv
    exact h2.2 _ k v hk hv

theorem mapM_some {α β : Type} (f : α → Option β) : ∀ (l : List α) {xs : List β}, l.mapM f = some xs → ∀ a ∈ l, ∃ b, f a = some b
  | [], _, _, a, ha => by cases ha
  | x :: l, xs, h, a, ha => by
    rw [List.mapM_cons] at h
    cases hx : f x with
    | none => rw [hx] at h; cases h
    | some b =>
      rw [hx] at h
      cases hl : l.mapM f with
      | none => simp [hl] at h
      | some ys =>
        rcases List.mem_cons.1 ha with rfl | ha
        · exact ⟨b, hx⟩
        · exact mapM_some f l hl a ha

theorem shapeFs_ok {P : Program} {w : World} {sh : TypeId → Option (List SK)} {cs : List Value} (fs : List Field) (hf : ∀ f ∈ fs, ∀ l, sh f.type = some l → CellsOk w l ((cs.drop f.offset).take (P.cellsOf f.type))) :
    ∀ {off : Nat} {ks : List SK}, shapeFs P sh fs off = some ks → CellsOk w ks ((cs.drop off).take ks.length) := by
  induction fs with
  | nil => intro off ks h; cases h; exact ⟨by simp, fun c k v hk => by simp at hk⟩
  | cons f fs ih =>
    intro off ks h
    simp only [shapeFs, Option.bind_eq_some_iff] at h
    obtain ⟨l, hl, h⟩ := h
    split at h
    · rename_i hc
      obtain ⟨ks', hks, rfl⟩ := Option.map_eq_some_iff.1 h
      have h1 := hf f (by simp) l hl
      rw [hc.1, ← hc.2] at h1
      have h2 := ih (fun f hf' => hf f (by simp [hf'])) hks
      have := h1.app h2
      rw [List.length_append]
      rw [show ((cs.drop off).take l.length) ++ ((cs.drop (off + l.length)).take ks'.length) = (cs.drop off).take (l.length + ks'.length) by
        rw [List.take_add, List.drop_drop]] at this
      exact this
    · cases h
theorem repL_ok {w : World} {l : List SK} {cs : List Value} (n : Nat) : ∀ (m : Nat), (∀ i, i < n → CellsOk w l ((cs.drop ((m + i) * l.length)).take l.length)) → CellsOk w (repL l n) ((cs.drop (m * l.length)).take (n * l.length)) := by
  induction n with
  | zero => intro m _; exact ⟨by simp [repL], fun c k v hk => by simp [repL] at hk⟩
  | succ n ih =>
    intro m h
    have h1 := h 0 (by omega)
    have h2 := ih (m + 1) (fun i hi => by have := h (i + 1) (by omega); rwa [show m + (i + 1) = m + 1 + i by omega] at this)
    have := h1.app h2
    rw [Nat.add_zero, Nat.add_mul m 1, Nat.one_mul] at this
    rw [Nat.add_mul n 1, Nat.one_mul, Nat.add_comm (n * l.length)]
    rw [← List.drop_drop, ← List.take_add] at this
    exact this
theorem repL_length {α : Type} (l : List α) (n : Nat) : (repL l n).length = n * l.length := by
  induction n with
  | zero => simp [repL]
  | succ n ih => simp [repL, ih, Nat.add_mul]; omega

theorem cells?_get {w : World} {a : Addr} {n : Nat} {cs : List Value} (h : w.cells? 0 a n = some cs) : cs.length = n ∧ ∀ i, i < n → ∃ v, cs[i]? = some v ∧ w.cell? (a.add i) = some v := by
  unfold World.cells? at h
  rw [if_pos (Nat.zero_le _)] at h
  have key : ∀ (l : List Nat) (cs : List Value), l.mapM (fun i => w.cell? (a.add i)) = some cs → cs.length = l.length ∧ ∀ (i x : Nat), l[i]? = some x → ∃ v, cs[i]? = some v ∧ w.cell? (a.add x) = some v := by
    intro l
    induction l with
    | nil => intro cs h; simp at h; subst h; simp
    | cons x l ih =>
      intro cs h
      rw [List.mapM_cons] at h
      cases hx : w.cell? (a.add x) with
      | none => rw [hx] at h; cases h
      | some v =>
        rw [hx] at h
        cases hl : l.mapM (fun i => w.cell? (a.add i)) with
        | none => simp [hl] at h
        | some ys =>
          simp [hl] at h
          subst h
          obtain ⟨h1, h2⟩ := ih ys hl
          refine ⟨by simp [h1], fun i y hy => ?_⟩
          cases i with
          | zero => simp at hy; subst hy; exact ⟨v, rfl, hx⟩
          | succ i => simp at hy; simpa using h2 i y hy
  obtain ⟨h1, h2⟩ := key _ _ h
  rw [List.length_range] at h1
  exact ⟨h1, fun i hi => h2 i i (by simp [List.getElem?_range hi])⟩
theorem cell?_spot {w : World} {a : Addr} {v : Value} (h : w.cell? a = some v) : a.block < w.heap.size ∧ a.spot = none := by
  refine ⟨?_, ?_⟩
  · rcases Nat.lt_or_ge a.block w.heap.size with h' | h'
    · exact h'
    · simp [World.cell?, Array.getElem?_eq_none h'] at h
  · cases hs : a.spot with
    | none => rfl
    | some x =>
      unfold World.cell? at h
      split at h
      · simp [hs] at h
      · cases h

theorem trod_float {Hh : Type} {enc : TypeId × Value → Hh} {P : Program} {w : World} {base : Nat} {sp : Nat → Bool} {held : Bool} {fuel : Nat} {t : TypeId} {cs : List Value} {x : DataW Hh × List MemPlace} {k : FloatKind} (ht : P.underlying t = some (.float k)) (h : DataW.trod enc P w base sp held fuel t cs = some x) : ∃ n, cs = [.float k n] ∧ (Lit.float k n).wf = true := by
  cases fuel with
  | zero => simp [DataW.trod] at h
  | succ n =>
    unfold DataW.trod at h
    rw [ht] at h
    split at h <;> simp_all
theorem trod_cells {Hh : Type} {enc : TypeId × Value → Hh} {P : Program} {w : World} {sp : Nat → Bool} {held : Bool} (fuel : Nat) : ∀ {t : TypeId} {cs : List Value} {x : DataW Hh × List MemPlace}, DataW.trod enc P w 0 sp held fuel t cs = some x →
    ∀ {g : Nat} {ks : List SK}, shapeL P g t = some ks → CellsOk w ks cs := by
  induction fuel with
  | zero => intro t cs x h; simp [DataW.trod] at h
  | succ fuel ih =>
    intro t cs x h g ks hk
    cases g with
    | zero => simp [shapeL] at hk
    | succ g =>
      unfold shapeL at hk
      cases hd : P.underlying t with
      | none => rw [hd] at hk; cases hk
      | some d =>
        rw [hd] at hk
        cases d with
        | bool =>
          cases hk
          obtain ⟨b, rfl, _⟩ := DataW.trod_bool hd h
          exact .one (.bool _)
        | int k =>
          cases hk
          obtain ⟨b, rfl, _, hw⟩ := DataW.trod_int hd h
          exact .one (.int _ _ hw)
        | float k =>
          cases hk
          obtain ⟨b, rfl, hw⟩ := trod_float hd h
          exact .one (.flt _ _ hw)
        | string =>
          cases hk
          obtain ⟨s, rfl, _, hs⟩ := DataW.trod_string hd h
          exact .one (.str _ hs)
        | slice e =>
          obtain ⟨l, hl, hk⟩ := Option.bind_eq_some_iff.1 hk
          split at hk
          · rename_i hc
            cases hk
            rcases DataW.trod_slice hd h with ⟨rfl, _⟩ | ⟨a, len, cap, elems, rest, n, hn, rfl, _, _, h1, h2, h3, h4, _⟩
            · exact .one (.slnil _ _)
            · obtain rfl : fuel = n := by omega
              have each : ∀ j, j < len → ∃ csj, w.cells? 0 (a.add (j * P.cellsOf e)) (P.cellsOf e) = some csj ∧ CellsOk w l csj := by
                intro j hj
                have := h4 j hj
                rw [List.getElem?_eq_getElem (by omega)] at this
                obtain ⟨csj, hcs, ht⟩ := Option.bind_eq_some_iff.1 this
                exact ⟨csj, hcs, ih ht hl⟩
              have hsp : 0 < len → a.block < w.heap.size ∧ a.spot = none := by
                intro hp
                obtain ⟨csj, hcs, _⟩ := each 0 hp
                obtain ⟨_, hg⟩ := cells?_get hcs
                obtain ⟨v, _, hv⟩ := hg 0 (by omega)
                simp only [Nat.zero_mul, Addr.add, if_true] at hv
                exact cell?_spot hv
              have hcell : ∀ j, j < len → ∀ c, c < l.length → ∃ v k, w.cell? ⟨a.block, a.off + (j * l.length + c), none⟩ = some v ∧ l[c]? = some k ∧ CellOk w k v := by
                intro j hj c hc'
                obtain ⟨csj, hcs, hok⟩ := each j hj
                obtain ⟨hlen, hg⟩ := cells?_get hcs
                obtain ⟨v, hv, hcl⟩ := hg c (by omega)
                refine ⟨v, l[c], ?_, List.getElem?_eq_getElem hc', hok.2 c _ v (List.getElem?_eq_getElem hc') hv⟩
                have hs := (hsp (by omega)).2
                rw [← hcl, ← hc.1]
                congr 1
                cases a with
                | mk b o s =>
                  simp only at hs
                  subst hs
                  simp only [Addr.add_lit]
                  congr 1
                  omega
              refine .one (.sl l.length _ a len cap (fun j c => (w.cell? ⟨a.block, a.off + (j * l.length + c), none⟩).getD undef) h1 h2 hsp ?_ ?_)
              · intro j hj c hc'
                obtain ⟨v, k, h5, _, _⟩ := hcell j hj c hc'
                rw [h5]; rfl
              · intro j hj c hc'
                obtain ⟨v, k, h5, h6, h7⟩ := hcell j hj c hc'
                rw [h5]
                simp only [List.getD_eq_getElem?_getD, h6, Option.getD_some]
                exact h7
          · cases hk
        | struct fs =>
          obtain ⟨l, hl, hk⟩ := Option.bind_eq_some_iff.1 hk
          split at hk
          · rename_i hc
            cases hk
            obtain ⟨xs, n, hn, _, hlen, hxs, hf⟩ := DataW.trod_struct hd h
            obtain rfl : fuel = n := by omega
            have := shapeFs_ok (w := w) (cs := cs) fs.toList (fun f hfm l' hl' => by
              obtain ⟨i, hi⟩ := List.getElem?_of_mem hfm
              have hi' : fs[i]? = some f := by simpa using hi
              have h5 := hf i f hi'
              have hlt := (Array.getElem?_eq_some_iff.1 hi').1
              rw [List.getElem?_eq_getElem (by omega)] at h5
              exact ih h5 hl') hl
            rw [hc, ← hlen, List.drop_zero, List.take_length] at this
            exact this
          · cases hk
        | array n e =>
          obtain ⟨l, hl, hk⟩ := Option.bind_eq_some_iff.1 hk
          split at hk
          · rename_i hc
            cases hk
            obtain ⟨xs, m, hn, _, hlen, hxs, hf⟩ := DataW.trod_array hd h
            obtain rfl : fuel = m := by omega
            have := repL_ok (w := w) (l := l) (cs := cs) n 0 (fun i hi => by
              have h5 := hf i hi
              rw [List.getElem?_eq_getElem (by omega)] at h5
              have := ih h5 hl
              rw [Nat.zero_add, hc.1]
              exact this)
            rw [hc.2, ← hlen, Nat.zero_mul, List.drop_zero, List.take_length] at this
            exact this
          · cases hk
        | _ => cases hk
end Go.Eng
