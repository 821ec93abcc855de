/- An evaluator of the code of the model, and lemmas of its proof of soundness: what it tells of a call, the call does; no condition but those that each lemma names. -/
import Derived.Test.YtpaiioipoibahaaEngMa
import Derived.Lib.AppendZerosOnto
import Derived.Laws.StructEq
import Derived.Laws.Cover3
import Derived.Laws.IdiomStrings
import Derived.Lib.ConvBytes
import Derived.MapKept
import Derived.Carry
import Derived.LoopN
import Derived.Tactics
import Derived.Orders
set_option linter.all false
set_option linter.deprecated false
set_option autoImplicit false
namespace Go.Eng
open Go Go.RowKit

theorem objOf_ok {N : NB} {φ φ' : Phi} {w w' : World} {id : Nat} {el : TypeId} {rs n : Nat} {c : AC} {vs : List Value} {p : Pl} (hp : φ' id = some (some p)) (h0 : p.o = 0 ∧ p.spot = none) (hrs : p.rs = rs) (hb : OwnBlock w' p.b el (p.k * rs)) (hok : okC rs n c = true) (hn : n ≤ p.k)
    (hle : PhiLe φ φ') (hs : SameBelow N w w') (h : ACRel N φ w rs n vs c) (hv : ∀ j u, vs[j]? = some u → w'.cell? ⟨p.b, j, none⟩ = some u) : ObjRel N φ' w' id (objOf el rs c) := by
  subst hrs
  cases c with
  | cells l =>
    obtain ⟨_, h2⟩ := Bool.and_eq_true_iff.1 (show (allLeaf l && Nat.beq l.length (n * p.rs)) = true from hok)
    have h2 : l.length = n * p.rs := Nat.eq_of_beq_eq_true h2
    refine ⟨p, hp, h0, rfl, hb, by rw [h2]; exact Nat.mul_le_mul_right _ hn, fun j a ha => ?_⟩
    obtain ⟨y, hy, hrel⟩ := AVsRel.get h j a ha
    exact ⟨y, hv j y hy, hrel.mono hle⟩
  | cols m cols =>
    obtain ⟨h1, h2⟩ := Bool.and_eq_true_iff.1 (show (Nat.beq m n && Nat.beq cols.length p.rs) = true from hok)
    have h2 : cols.length = p.rs := Nat.eq_of_beq_eq_true h2
    obtain ⟨rfl, hl, hc⟩ := h
    refine ⟨hl, p, hp, h0, h2.symm, by rw [h2]; exact hb, hn, fun j hj i col hi => ?_⟩
    obtain ⟨z, hz, hrel⟩ := hc j hj i col hi
    refine ⟨z, ?_, hrel.same hs⟩
    have := hv _ z hz
    rw [at_eq p h0.2, h0.1]
    simpa using this

theorem size_setCells (w : World) (b : Nat) (vs : List Value) : ∀ o, (w.setCells b o vs).heap.size = w.heap.size := by
  induction vs generalizing w with
  | nil => intro o; rfl
  | cons v vs ih => intro o; rw [World.setCells, ih]; simp [World.setCell]
theorem tape_setCells (w : World) (b : Nat) (vs : List Value) : ∀ o, (w.setCells b o vs).tape = w.tape := by
  induction vs generalizing w with
  | nil => intro o; rfl
  | cons v vs ih => intro o; rw [World.setCells, ih]; rfl
theorem ownBlock_setCells {w : World} {b : Nat} {e : TypeId} {k : Nat} (h : OwnBlock w b e k) (vs : List Value) : ∀ o, OwnBlock (w.setCells b o vs) b e k := by
  induction vs generalizing w with
  | nil => intro o; exact h
  | cons v vs ih =>
    intro o
    rw [World.setCells]
    refine ih ?_ _
    obtain ⟨cur, f, h1, h2, h3⟩ := h
    exact ⟨_, f, setCell_block w b o v cur e _ h1, by simpa using h2, h3⟩
/-- What is appended, by what the call comes to. -/
structure SrcG (P : Program) (el : TypeId) (size : Nat) (tx : TypeId) (x : Value) (n : Nat) (news : List Value) (w : World) : Prop where
  newsLen : news.length = n * size
  stay : n = 0 → ∀ (t ty : TypeId) (i : TypeInfo) (A : Option Addr), P.underlying t = some (.slice el) → P.info? el = some i → i.size = size → (Builtin.append_ #[t, tx] ty #[.slice A 0 0, x]).run P w = .ok (.slice A 0 0) w
  room : ∀ (t ty : TypeId) (i : TypeInfo) (b off sLen sCap : Nat), P.underlying t = some (.slice el) → P.info? el = some i → i.size = size → sLen + n ≤ sCap → (∀ j, j < news.length → (w.cell? ⟨b, off + sLen * i.size + j, none⟩).isSome = true) →
    (∀ j, j < news.length → w.frozen? ⟨b, off + sLen * i.size + j, none⟩ = false) →
    (Builtin.append_ #[t, tx] ty #[.slice (some ⟨b, off, none⟩) sLen sCap, x]).run P w = .ok (.slice (some ⟨b, off, none⟩) (sLen + n) sCap) (w.setCells b (off + sLen * i.size) news)
  grow : ∀ (t ty : TypeId) (i : TypeInfo) (z : Value) (base : Option Addr) (sLen sCap : Nat) (olds : List Value), P.underlying t = some (.slice el) → P.info? el = some i → i.zero = some z → i.size = size →
    (Builtin.firstCells i.size sLen (.slice base sLen sCap)).run P w.drew = .ok olds.toArray w.drew → sCap < sLen + n → ((sLen + n : Nat) : Int) ≤ 9223372036854775807 → Builtin.nextslicecap (sLen + n) sCap * i.bytes ≤ 281474976710656 →
    (Builtin.append_ #[t, tx] ty #[.slice base sLen sCap, x]).run P w =
      .ok (.slice (some ⟨w.heap.size, 0, none⟩) (sLen + n) (grownCap w (sLen + n) sCap el))
        (w.drew.alloc (.cells ((olds ++ news).toArray ++ Builtin.zeroCells z.cells (grownCap w (sLen + n) sCap el - (sLen + n))) el))
theorem SrcG.ofSrc {P : Program} {el : TypeId} {size : Nat} {tx : TypeId} {x : Value} {n : Nat} {news : List Value} {w : World} (hs : Src P size tx x n news w) : SrcG P el size tx x n news w where
  newsLen := hs.newsLen
  stay := by
    intro hn t ty i A ht hi hsz
    subst hn hsz
    have hnews : news = [] := List.length_eq_zero_iff.1 (by rw [hs.newsLen]; simp)
    subst hnews
    rcases hs.kind with ⟨e', hk⟩ | hk <;> cases A <;> simp [Builtin.append_, run_underlying ht, run_underlying hk, sizeOf, typeInfo, hi, hs.len, hs.cells, Go.storeCells]
  room := by
    intro t ty i b off sLen sCap ht hi hsz hroom hc hf
    subst hsz
    exact run_append_room_src (P := P) w t tx ty el i ht hi b off sLen sCap x n news hs hroom hc hf
  grow := by
    intro t ty i z base sLen sCap olds ht hi hz hsz hold hg h63 hfit
    subst hsz
    exact run_append_grow_src (P := P) w t tx ty el i z ht hi hz base sLen sCap olds hold x n news hs hg h63 hfit
/-- So many zeros. -/
theorem SrcG.ofZeros {P : Program} {el : TypeId} {size : Nat} {tx : TypeId} {kn kq : IntKind} {k : Nat} {i : TypeInfo} {z : Value} {w : World} (htn : P.underlying tx = some (.int kn)) (hi : P.info? el = some i) (hz : i.zero = some z) (hsz : i.size = size) (hzs : z.cells.size = size) (h0 : 0 < size)
    (hone : ∀ u ∈ (Builtin.zeroCells z.cells k).toList, u.oneCell' = true) (h48 : k * i.bytes ≤ 140737488355328) (h63 : (k : Int) ≤ 140737488355328) : SrcG P el size tx (.int kq k) k (Builtin.zeroCells z.cells k).toList w where
  newsLen := by rw [Array.length_toList, size_zeroCells, hzs]
  stay := by
    intro hn t ty i' A ht hi' hsz'
    subst hn
    cases A <;> simp [Builtin.append_, run_underlying ht, run_underlying htn, sizeOf, typeInfo, hi, Go.storeCells, asInt, asIntOf, IntKind.wrap_i64]
  room := by
    intro t ty i' b off sLen sCap ht hi' hsz' hroom hc hf
    rw [hi] at hi'
    cases hi'
    have hst := run_storeCells_cells (P := P) b (off + sLen * i.size) (Builtin.zeroCells z.cells k).toList 0 w (by simpa using hc) (by simpa using hf) hone
    simp only [Nat.add_zero] at hst
    have hw : IntKind.i64.wrap (k : Int) = k := by rw [IntKind.wrap_i64]; omega
    have h48i : ¬ (281474976710656 < (k : Int) * (i.bytes : Int)) := by
      rw [← Int.natCast_mul]
      omega
    have hneg : ¬ ((k : Int) < 0) := by omega
    by_cases hk : k = 0
    · subst hk
      have e : (Builtin.zeroCells z.cells 0).toList = [] := List.length_eq_zero_iff.1 (by rw [Array.length_toList, size_zeroCells]; simp)
      rw [e]
      simp only [Nat.add_zero] at hroom
      simp [Builtin.append_, run_underlying ht, run_underlying htn, sizeOf, typeInfo, hi, asInt, asIntOf, IntKind.wrap_i64, Addr.add_lit, hroom, Go.storeCells, World.setCells]
    · have hns : ¬ (k * i.size = 0) := Nat.mul_ne_zero hk (by omega)
      simp [Builtin.append_, run_underlying ht, run_underlying htn, sizeOf, typeInfo, zeroValue, hi, hz, asInt, asIntOf, hw, hneg, h48i, hns, hroom, Addr.add_lit, hst]
  grow := by
    intro t ty i' z' base sLen sCap olds ht hi' hz' hsz' hold hg h63' hfit
    rw [hi] at hi'
    cases hi'
    rw [hz] at hz'
    cases hz'
    by_cases hk : k = 0
    · subst hk
      have e : (Builtin.zeroCells z.cells 0) = #[] := Array.eq_empty_of_size_eq_zero (by rw [size_zeroCells]; simp)
      have hn : ¬ (sLen ≤ sCap) := by omega
      rw [e]
      have h63'' : ¬ (9223372036854775807 < (sLen : Int)) := by simp only [Nat.add_zero] at h63'; omega
      have h48' : ¬ (281474976710656 < Builtin.nextslicecap sLen sCap * i.bytes) := by simp only [Nat.add_zero] at hfit; omega
      simp [Builtin.append_, run_underlying ht, run_underlying htn, sizeOf, typeInfo, zeroValue, hi, hz, asInt, asIntOf, IntKind.wrap_i64, hn, h63'', h48', Question.forced, hold, newRow, grownCap]
    · have := Lib.run_append_grow_zeros (P := P) w t tx ty el i z kq kn ht htn hi hz base sLen sCap olds hold k (by omega) (by omega) hg h63' (by omega) hfit
      rw [this]
      congr 3
      apply Array.ext'
      simp
/-- What is appended. -/
structure SrcA (P : Program) (N : NB) (φ : Phi) (w : World) (el : TypeId) (size : Nat) (tx : TypeId) (y : Value) (m : Nat) (news : List Value) (c : AC) : Prop where
  src : SrcG P el size tx y m news w
  rel : ACRel N φ w size m news c

theorem appNil_ok {P : Program} {t tx ty el : TypeId} {ti : TI} (ht : P.underlying t = some (.slice el)) (te : TIok P el ti) {N : NB} {φ : Phi} {M : Mem} {w : World} (hr : Rep N φ M w) {m : Nat} {s : AV} {A : Option Addr} {y : Value} {news : List Value} {c : AC}
    (hs : AVRel φ s (.slice A 0 0)) (hc : SrcA P N φ w el ti.size tx y m news c) {Q : AV × Mem → Prop} {Qp : AV → Mem → Prop} (h : (appNil ti M el m s c).holds Q Qp) :
    ∃ z w', (Builtin.append_ #[t, tx] ty #[.slice A 0 0, y]).run P w = .ok z w' ∧ Good N φ M w Q z w' := by
  obtain ⟨i, z, hi, hsz, hby, hz, hzz, hzs⟩ := te.info
  rw [← hsz] at hc
  obtain ⟨h1, h2⟩ := h
  cases hb : Nat.beq m 0 with
  | true =>
    have hm : m = 0 := Nat.eq_of_beq_eq_true hb
    subst hm
    refine ⟨_, _, ?_, .here hr (h1 hb) hs⟩
    exact hc.src.stay rfl t ty i A ht hi rfl
  | false =>
    have hm : m ≠ 0 := Nat.ne_of_beq_eq_false hb
    obtain ⟨hro, h⟩ := br_ok (h2 hb)
    obtain ⟨hb0, hfit⟩ := Bool.and_eq_true_iff.1 hro
    have hb0 : 0 < ti.bytes := Nat.le_of_ble_eq_true hb0
    have hfit : m * ti.bytes ≤ 140737488355328 := Nat.le_of_ble_eq_true hfit
    obtain ⟨d, hd, h⟩ := onO_ok h
    obtain ⟨hok, hq⟩ := br_ok h
    have hrel : ACRel N φ w ti.size m news d := normC_ok (by rw [← hsz]; exact hc.rel) hd
    have hm1 : m ≤ m * ti.bytes := Nat.le_mul_of_pos_right m hb0
    have hrun := hc.src.grow t ty i z A 0 0 [] ht hi hz rfl (by
      cases A with
      | none => exact run_firstCells_none _ _ _ _ _
      | some a => simpa using run_firstCells_some (P := P) w.drew i.size 0 a 0 0 [] (by simp) (by simp)) (by omega) (by omega) (by rw [Nat.zero_add, hby]; exact growslice_fits (by omega) hfit)
    have hge := grownCap_ge w (0 + m) 0 el
    refine ⟨_, _, hrun, ?_⟩
    have key := (hr.draw).newOwn (objOf el ti.size d) (.cells (([] ++ news).toArray ++ Builtin.zeroCells z.cells (grownCap w (0 + m) 0 el - (0 + m))) el) ⟨w.heap.size, 0, ti.size, grownCap w (0 + m) 0 el, none⟩ rfl (by
      refine objOf_ok (φ := φ) (w := w) (p := ⟨w.heap.size, 0, ti.size, grownCap w (0 + m) 0 el, none⟩) (updP_self ..) ⟨rfl, rfl⟩ rfl ⟨_, _, alloc_new _ _, ?_, .inl rfl⟩ hok (by simpa using hge) (updP_le _ (hr.fresh _ (Nat.le_refl _)).2) (fun b hb => push_same w.drew _ b (Nat.lt_of_lt_of_le hb hr.size)) hrel fun j u hu => ?_
      · simp only [Array.size_append, List.size_toArray, size_zeroCells, List.nil_append, hc.src.newsLen, hzs, hsz]
        rw [← Nat.add_mul]
        congr 1
        omega
      · have hj := (List.getElem?_eq_some_iff.1 hu).1
        show (w.drew.alloc _).cell? ⟨w.drew.heap.size, j, none⟩ = some u
        simp only [World.cell?, alloc_new]
        rw [Array.getElem?_append_left (by simpa using hj)]
        simpa using hu)
    refine ⟨_, _, _, hq, ?_, key.1, (Ext.draw φ M w).trans key.2⟩
    have := AVRel.sl (φ := updP φ M.next (some ⟨w.heap.size, 0, ti.size, grownCap w (0 + m) 0 el, none⟩)) M.next 0 m none _ (grownCap w (0 + m) 0 el) (updP_self ..) (fun h => by cases h) (fun c h => by cases h) (by omega) (fun p h => by cases h; simp) (fun p h _ => by cases h; rfl)
    simpa [Pl.at] using this

theorem appOwn_ok {P : Program} {t tx ty el : TypeId} {ti : TI} (ht : P.underlying t = some (.slice el)) (te : TIok P el ti) {N : NB} {φ : Phi} {M : Mem} {w : World} (hr : Rep N φ M w) {m id n cc : Nat} {x : Option Pl} {y : Value} {news : List Value} {c : AC}
    (hx : φ id = some x) (hrs : ∀ p, φ id = some (some p) → p.rs = ti.size) (hle : n ≤ cc) (hk : ∀ p, x = some p → cc ≤ p.k) (hc : SrcA P N φ w el ti.size tx y m news c) {Q : AV × Mem → Prop} {Qp : AV → Mem → Prop} (h : (appOwn ti M el id n m c).holds Q Qp) :
    ∃ z w', (Builtin.append_ #[t, tx] ty #[.slice (x.map fun p => p.at 0 0) n cc, y]).run P w = .ok z w' ∧ Good N φ M w Q z w' := by
  obtain ⟨i, z, hi, hsz, hby, hz, hzz, hzs⟩ := te.info
  have hkey : (appOwn.appOwn1 ti M el id n m c).holds Q Qp ∧ isOwn (M.get id) ∧ ∃ p, x = some p ∧ (p.o = 0 ∧ p.spot = none) ∧ OwnBlock w p.b el (p.k * ti.size) := by
    have ho := hr.objs id
    unfold appOwn at h
    cases hg : M.get id with
    | dead => rw [hg] at h; exact h.elim
    | ro => rw [hg] at h; exact h.elim
    | map es cl => rw [hg] at h; exact h.elim
    | own e rs cells =>
      rw [hg] at ho h
      obtain ⟨he, h⟩ := br_ok (show (T.br (Nat.beq e el) (appOwn.appOwn1 ti M el id n m c) .fail).holds Q Qp from h)
      have he : e = el := Nat.eq_of_beq_eq_true he
      subst he
      obtain ⟨q, hq, h1, h2, h3, _⟩ := ho
      have h5 := hrs q hq
      rw [hx] at hq; cases hq
      exact ⟨h, trivial, q, rfl, h1, by rw [← h5, h2]; exact h3⟩
    | vec e k cols =>
      rw [hg] at ho h
      obtain ⟨he, h⟩ := br_ok (show (T.br (Nat.beq e el) (appOwn.appOwn1 ti M el id n m c) .fail).holds Q Qp from h)
      have he : e = el := Nat.eq_of_beq_eq_true he
      subst he
      obtain ⟨_, q, hq, h1, h2, h3, _⟩ := ho
      have h5 := hrs q hq
      rw [hx] at hq; cases hq
      exact ⟨h, trivial, q, rfl, h1, by rw [← h5, h2]; exact h3⟩
  clear h
  obtain ⟨h, hown, p, rfl, hpo, hblk⟩ := hkey
  have hps := hrs p hx
  have hk := hk p rfl
  obtain ⟨hl, h⟩ := br_ok h
  have hl : M.lock ≤ id := Nat.le_of_ble_eq_true hl
  obtain ⟨d, olds, h, hol, hdrel, hone, hcells⟩ := acOf_ok hr hx hrs (fun e => by cases e) h
  have hcells := hcells p rfl
  obtain ⟨hro, h⟩ := br_ok h
  obtain ⟨hb0, hfit⟩ := Bool.and_eq_true_iff.1 hro
  have hb0 : 0 < ti.bytes := Nat.le_of_ble_eq_true hb0
  have hfit : (n + m) * ti.bytes ≤ 140737488355328 := Nat.le_of_ble_eq_true hfit
  obtain ⟨d', hd', h⟩ := onO_ok h
  obtain ⟨c', hc', h⟩ := onO_ok h
  obtain ⟨j, hj, h⟩ := onO_ok h
  obtain ⟨hok, hq⟩ := br_ok h
  have hrel : ACRel N φ w ti.size (n + m) (olds ++ news) j := joinC_ok hol (normC_ok hdrel hd') (normC_ok hc.rel hc') hj
  have hnl : news.length = m * ti.size := hc.src.newsLen
  have hm1 : n + m ≤ (n + m) * ti.bytes := Nat.le_mul_of_pos_right _ hb0
  have hadd : ∀ k, (p.at 0 0).add k = ⟨p.b, k, none⟩ := by intro k; rw [at_add p hpo.2, at_eq p hpo.2, hpo.1]; simp
  have hA : p.at 0 0 = ⟨p.b, 0, none⟩ := by rw [at_eq p hpo.2, hpo.1]; simp
  by_cases hroom : n + m ≤ cc
  · have hkk : (n + m) * ti.size ≤ p.k * ti.size := Nat.mul_le_mul_right _ (by omega)
    rw [Nat.add_mul] at hkk
    have hsome : ∀ j, j < news.length → (w.cell? ⟨p.b, n * ti.size + j, none⟩).isSome = true := fun j hj => hblk.cellSome (by omega)
    have hsrc := hc.src
    rw [← hsz] at hsrc
    have hrun := hsrc.room t ty i p.b 0 n cc ht hi rfl hroom (fun j hj => by rw [hsz, Nat.zero_add]; exact hsome j hj) (fun j hj => by rw [hsz, Nat.zero_add]; exact hblk.free (by omega))
    simp only [Option.map_some, hA]
    refine ⟨_, _, hrun, ?_⟩
    rw [hsz, Nat.zero_add]
    have hoth : ∀ b, b < w.heap.size → b ≠ p.b → (w.setCells p.b (n * ti.size) news).heap[b]? = w.heap[b]? := fun b hb hne => World.heap_setCells_other w p.b _ news hb hne
    have hkept := World.keptBut_setCells p.b (may := fun _ => True) news (n * ti.size) w (fun _ _ => trivial)
    have hsize : (w.setCells p.b (n * ti.size) news).heap.size = w.heap.size := size_setCells ..
    have hN := hr.high id p hown hx
    have key := hr.regrow hown hx hl (w' := w.setCells p.b (n * ti.size) news) (objOf el ti.size j) hsize (World.os_setCells ..) (tape_setCells ..) (World.output_setCells ..) hoth (by
      refine objOf_ok (φ := φ) (w := w) (updP_self ..) hpo hps ?_ hok (by omega) (updP_le _ (hr.fresh _ (Nat.le_refl _)).2) (fun b hb => hoth b (Nat.lt_of_lt_of_le hb hr.size) (by omega)) hrel fun k u hu => ?_
      · exact ownBlock_setCells hblk _ _
      · by_cases hk' : k < n * ti.size
        · rw [World.cell?_setCells_out p.b _ _ _ _ (fun _ _ => .inl hk')]
          rw [List.getElem?_append_left (by omega)] at hu
          rw [← hadd]
          exact hcells k u hu
        · have hlt := (List.getElem?_eq_some_iff.1 hu).1
          rw [List.length_append] at hlt
          have := World.cell?_setCells_in p.b news (n * ti.size) w hsome (k - n * ti.size) (by omega)
          rw [show n * ti.size + (k - n * ti.size) = k by omega] at this
          rw [this]
          rw [List.getElem?_append_right (by omega), hol, List.getElem?_eq_getElem (by omega)] at hu
          exact hu)
    refine ⟨_, _, _, hq, ?_, key.1, key.2⟩
    have := AVRel.sl (φ := updP φ M.next (some p)) M.next 0 (n + m) none _ cc (updP_self ..) (fun h => by cases h) (fun c h => by cases h) hroom (fun q h => by cases h; simpa using hk) (fun q h _ => by cases h; exact hpo.2)
    simp only [Option.map_some, hA] at this
    exact this
  · have hsrc := hc.src
    rw [← hsz] at hsrc
    have hrun := hsrc.grow t ty i z (some (p.at 0 0)) n cc olds ht hi hz rfl (by
      exact run_firstCells_some (P := P) w.drew i.size n (p.at 0 0) n cc olds (by rw [hol, hsz]) (by simpa using hcells)) (by omega) (by omega) (by rw [hby]; exact growslice_fits (by omega) hfit)
    have hge := grownCap_ge w (n + m) cc el
    refine ⟨_, _, hrun, ?_⟩
    have hkill := hr.kill id
    have key := (hkill.1.draw).newOwn (objOf el ti.size j) (.cells ((olds ++ news).toArray ++ Builtin.zeroCells z.cells (grownCap w (n + m) cc el - (n + m))) el) ⟨w.heap.size, 0, ti.size, grownCap w (n + m) cc el, none⟩ rfl (by
      refine objOf_ok (φ := φ) (w := w) (p := ⟨w.heap.size, 0, ti.size, grownCap w (n + m) cc el, none⟩) (updP_self ..) ⟨rfl, rfl⟩ rfl ⟨_, _, alloc_new _ _, ?_, .inl rfl⟩ hok hge (updP_le _ (hr.fresh _ (Nat.le_refl _)).2) (fun b hb => push_same w.drew _ b (Nat.lt_of_lt_of_le hb hr.size)) hrel fun j u hu => ?_
      · simp only [Array.size_append, List.size_toArray, size_zeroCells, List.length_append, hol, hnl, hzs]
        rw [← Nat.add_mul, ← Nat.add_mul]
        congr 1
        omega
      · have hj := (List.getElem?_eq_some_iff.1 hu).1
        show (w.drew.alloc _).cell? ⟨w.drew.heap.size, j, none⟩ = some u
        simp only [World.cell?, alloc_new]
        rw [Array.getElem?_append_left (by simpa using hj)]
        simpa using hu)
    refine ⟨_, _, _, hq, ?_, key.1, hkill.2.trans ((Ext.draw φ _ w).trans key.2)⟩
    have := AVRel.sl (φ := updP φ (M.set id .dead).next (some ⟨w.heap.size, 0, ti.size, grownCap w (n + m) cc el, none⟩)) M.next 0 (n + m) none _ (grownCap w (n + m) cc el) (updP_self ..) (fun h => by cases h) (fun c h => by cases h) hge (fun p h => by cases h; simp) (fun p h _ => by cases h; rfl)
    simpa [Pl.at] using this
end Go.Eng

set_option autoImplicit false
namespace Go.Eng
open Go Go.RowKit

theorem leaves_one1 {φ : Phi} (l : List AV) : ∀ {zs : List Value}, allLeaf l = true → AVsRel φ l zs → ∀ z ∈ zs, z.oneCell' = true := by
  induction l with
  | nil => intro zs _ h; cases h; intro z hz; cases hz
  | cons x l ih =>
    intro zs hl h
    cases h with
    | cons h1 h2 =>
      have hl : @Bool.rec (fun _ => Bool) false (allLeaf l) (leafA x) = true := hl
      obtain ⟨a, b⟩ : leafA x = true ∧ allLeaf l = true := by
        cases hx : leafA x with
        | true => rw [hx] at hl; exact ⟨rfl, hl⟩
        | false => rw [hx] at hl; cases hl
      intro z hz
      rcases List.mem_cons.1 hz with rfl | hz
      · exact leafA_one a h1
      · exact ih b h2 z hz
theorem appTo_ok {P : Program} {t tx ty el : TypeId} {ti : TI} (ht : P.underlying t = some (.slice el)) (te : TIok P el ti) {N : NB} {φ : Phi} {M : Mem} {w : World} (hr : Rep N φ M w) {m : Nat} {s : AV} {sv y : Value} {news : List Value} {c : AC}
    (hs : AVRel φ s sv) (hc : SrcA P N φ w el ti.size tx y m news c) {Q : AV × Mem → Prop} {Qp : AV → Mem → Prop} (h : (appTo ti M el m s c).holds Q Qp) :
    ∃ z w', (Builtin.append_ #[t, tx] ty #[sv, y]).run P w = .ok z w' ∧ Good N φ M w Q z w' := by
  unfold appTo at h
  cases hs with
  | v =>
    obtain ⟨rfl, h⟩ := nilSl_ok (show (nilSl sv (appNil ti M el m (.v sv) c)).holds Q Qp from h)
    exact appNil_ok ht te hr (.v _) hc h
  | sl id r n cap x cc hx h0 hcap hle hk hs =>
    have h : (appSl ti M el m id r n cap c).holds Q Qp := h
    have big : ((T.br (Nat.beq r 0) (rsIs M id ti.size (appOwn ti M el id n m c)) .fail).holds Q Qp) → ∃ z w', (Builtin.append_ #[t, tx] ty #[.slice (x.map fun p => p.at r 0) n cc, y]).run P w = .ok z w' ∧ Good N φ M w Q z w' := by
      intro hh
      obtain ⟨hb, h'⟩ := br_ok hh
      have hb : r = 0 := Nat.eq_of_beq_eq_true hb
      subst hb
      obtain ⟨h', hrs⟩ := rsIs_ok hr h'
      exact appOwn_ok ht te hr hx hrs hle (fun p e => by simpa using hk p e) hc h'
    cases cap with
    | none => exact big h
    | some k =>
      have h : (bif2 (Nat.beq k 0) (appNil ti M el m (.sl id r n (some k)) c) (.br (Nat.beq r 0) (rsIs M id ti.size (appOwn ti M el id n m c)) .fail)).holds Q Qp := h
      rw [bif2_eq] at h
      split at h
      · rename_i hk0
        have hk0 : k = 0 := Nat.eq_of_beq_eq_true hk0
        subst hk0
        have := hcap 0 rfl
        subst this
        have : n = 0 := by omega
        subst this
        exact appNil_ok ht te hr (.sl id r 0 (some 0) x 0 hx h0 hcap hle hk hs) hc h
      · exact big h
  | _ => exact h.elim

theorem evAppend_ok {P : Program} {tt : TT} (tok : TTok P tt) {N : NB} {φ : Phi} {M : Mem} {w : World} (hr : Rep N φ M w) {t tx ty : TypeId} {s x : AV} {sv y : Value} (hs : AVRel φ s sv) (hx : AVRel φ x y)
    {Q : AV × Mem → Prop} {Qp : AV → Mem → Prop} (h : (evAppend tt M t tx s x).holds Q Qp) : ∃ z w', (Builtin.append_ #[t, tx] ty #[sv, y]).run P w = .ok z w' ∧ Good N φ M w Q z w' := by
  unfold evAppend at h
  cases hu : (tt t).u with
  | sl el =>
    rw [hu] at h
    have ht := (tok t (by rw [hu]; simp)).und
    rw [hu] at ht
    have ht : P.underlying t = some (.slice el) := ht
    obtain ⟨hb, h⟩ := onK_both (show (onK (tt el).u (onK (tt tx).u .fail (appSrc (tt tx).u (tt tx).kind (tt el) M el s x)) (onK (tt tx).u .fail (appSrc (tt tx).u (tt tx).kind (tt el) M el s x))).holds Q Qp from h)
    have te := tok el hb
    rcases onK_ok h with ⟨_, _, h⟩ | ⟨hbx, _, h⟩
    · exact h.elim
    have tix := (tok tx hbx).und
    have tkx := (tok tx hbx).kind
    unfold appSrc at h
    cases hux : (tt tx).u with
    | sl e2 =>
      rw [hux] at h tix
      have tix : P.underlying tx = some (.slice e2) := tix
      cases hx with
      | v =>
        obtain ⟨rfl, h⟩ := nilSl_ok (show (nilSl y (appTo (tt el) M el 0 s (.cells []))).holds Q Qp from h)
        exact appTo_ok ht te hr hs ⟨.ofSrc (Src.ofNil w tix 0), show ACRel N φ w (tt el).size 0 [] (.cells []) from AVsRel.nil⟩ h
      | sl id r m cap pl cc hp h0 hcap hle hk hss =>
        obtain ⟨h, hrs⟩ := rsIs_ok hr (show (rsIs M id (tt el).size (acOf (M.get id) r m fun c => appTo (tt el) M el m s c)).holds Q Qp from h)
        obtain ⟨c, vs, h, hl, hrel, hone, hcells⟩ := acOf_ok hr hp hrs h0 h
        refine appTo_ok (news := vs) (c := c) ht te hr hs ⟨?_, hrel⟩ h
        cases pl with
        | none =>
          have := h0 rfl
          subst this
          have : vs = [] := List.length_eq_zero_iff.1 (by rw [hl]; simp)
          subst this
          exact .ofSrc (Src.ofNil w tix cc)
        | some p => exact .ofSrc (Src.ofSlice w tix _ m cc vs hl (hcells p rfl) hone)
      | e A cc => exact appTo_ok ht te hr hs ⟨.ofSrc (Src.ofSlice w tix A 0 cc [] (by simp) (by simp) (by simp)), show ACRel N φ w (tt el).size 0 [] (.cells []) from AVsRel.nil⟩ h
      | _ => exact h.elim
    | str =>
      rw [hux] at h tix
      have tix : P.underlying tx = some .string := tix
      obtain ⟨b, rfl, h⟩ := onS_ok (show (onS x fun b => .br (Nat.beq (tt el).size 1) (appTo (tt el) M el b.size s (.cols b.size [.ci .u8 (bytesCol b)])) .fail).holds Q Qp from h)
      cases hx
      obtain ⟨h1, h⟩ := br_ok h
      have h1 : (tt el).size = 1 := Nat.eq_of_beq_eq_true h1
      have hlen : (bytesCol b).length = b.size := by unfold bytesCol; rw [List.length_map, Array.length_toList]; rfl
      refine appTo_ok (news := byteCells b) (c := .cols b.size [.ci .u8 (bytesCol b)]) ht te hr hs ⟨by rw [h1]; exact .ofSrc (Src.ofString w tix b), rfl, fun c col hc => ?_, fun j hj c col hc => ?_⟩ h
      · cases c with
        | zero => simp at hc; subst hc; exact hlen
        | succ c => simp at hc
      · cases c with
        | succ c => simp at hc
        | zero =>
          simp at hc; subst hc
          rw [h1]
          have hj' : j < b.data.toList.length := by rw [Array.length_toList]; exact hj
          refine ⟨.int .u8 (b.data.toList[j]).toNat, ?_, ?_⟩
          · simp only [Nat.mul_one, Nat.add_zero, byteCells, List.getElem?_map, List.getElem?_eq_getElem hj', Option.map_some]
          · have := ColRel.ci (N := N) (w := w) .u8 (bytesCol b) j
            rw [getD_of (x := ((b.data.toList[j]).toNat : Int)) (by simp only [bytesCol, List.getElem?_map, List.getElem?_eq_getElem hj', Option.map_some])] at this
            exact this
    | leaf =>
      rw [hux] at h
      have h : (appZeros (tt tx).kind (tt el) M el s x).holds Q Qp := h
      unfold appZeros ifIntK at h
      cases hkx : (tt tx).kind with
      | int kn =>
        rw [hkx] at h tkx
        have htn : P.underlying tx = some (.int kn) := tkx
        have h2 := onI_ok (show (onI x fun _ k => .br (decide (0 ≤ k) && (decide (k ≤ 16777216) && (Nat.blt 0 (tt el).size && (Nat.ble (k.toNat * (tt el).bytes) 140737488355328 && allLeaf (tile (tt el).zero k.toNat))))) (appTo (tt el) M el k.toNat s (.cells (tile (tt el).zero k.toNat))) .fail).holds Q Qp from h)
        clear h
        obtain ⟨kq, k, rfl, h3⟩ := h2
        obtain ⟨hc, h⟩ := br_ok h3
        clear h3
        obtain ⟨hc0, hc1⟩ := Bool.and_eq_true_iff.1 hc
        obtain ⟨hc3, hc1⟩ := Bool.and_eq_true_iff.1 hc1
        obtain ⟨hc1, hc2⟩ := Bool.and_eq_true_iff.1 hc1
        obtain ⟨hc2, hleaf⟩ := Bool.and_eq_true_iff.1 hc2
        have d1 := of_decide_eq_true hc3
        have d0 := of_decide_eq_true hc0
        have h0 : 0 < (tt el).size := Nat.le_of_ble_eq_true hc1
        have hle : k.toNat * (tt el).bytes ≤ 140737488355328 := Nat.le_of_ble_eq_true hc2
        obtain ⟨i, z, hi, hsz, hbt, hz, hzz, hzs⟩ := te.info
        obtain ⟨n, rfl⟩ : ∃ n : Nat, k = (n : Int) := ⟨k.toNat, by omega⟩
        cases hx
        rw [Int.toNat_natCast] at h hle hleaf
        have hrel : AVsRel φ (tile (tt el).zero n) (Builtin.zeroCells z.cells n).toList := by
          have := zero_tile (φ := φ) (n := n) hzs h0
          rw [← hzz]
          unfold Builtin.zeroCells
          rw [hzs] at this ⊢
          exact this
        exact appTo_ok (news := (Builtin.zeroCells z.cells n).toList) ht te hr hs ⟨SrcG.ofZeros htn hi hz hsz hzs h0 (leaves_one1 _ hleaf hrel) (by rw [hbt]; exact hle) (by omega), show ACRel N φ w (tt el).size n _ (.cells (tile (tt el).zero n)) from hrel⟩ h
      | _ => rw [hkx] at h; exact h.elim
    | _ => rw [hux] at h; exact h.elim
  | _ => rw [hu] at h; exact h.elim
end Go.Eng

set_option autoImplicit false
namespace Go.Eng
open Go Go.RowKit

theorem avCol_ok {N : NB} {φ : Phi} {w : World} {col : Col} {j : Nat} {x : AV} {z : Value} (h : avCol j col = some x) (hz : ColRel N w col j z) : AVRel φ x z := by
  cases hz with
  | ci k l => cases h; exact .i _ _
  | cs l => cases h; exact .s _
  | cb l => cases h; exact .b _
  | cf k l => cases h; exact .v _
  | cl => cases h
theorem avL_ok {N : NB} {φ : Phi} {w : World} {rs k : Nat} {vs : List Value} {cols : List Col} (h0 : 0 < rs) (hl : vs.length = k * rs)
    (hc : ∀ j, j < k → ∀ c col, cols[c]? = some col → ∃ z, vs[j * rs + c]? = some z ∧ ColRel N w col j z) (n : Nat) : ∀ {i : Nat} {l : List AV}, avL rs cols n i = some l → i + n = vs.length → AVsRel φ l (vs.drop i) := by
  induction n with
  | zero =>
    intro i l h e
    have h : some [] = some l := h
    cases h
    rw [List.drop_eq_nil_of_le (by omega)]
    exact .nil
  | succ n ih =>
    intro i l h e
    have h : @Option.rec Col (fun _ => Option (List AV)) none (fun col => @Option.rec AV (fun _ => Option (List AV)) none (fun x => @Option.rec (List AV) (fun _ => Option (List AV)) none (fun l => some (x :: l)) (avL rs cols n (i + 1))) (avCol (i / rs) col)) (nth? cols (i % rs)) = some l := h
    cases h1 : nth? cols (i % rs) with
    | none => rw [h1] at h; cases h
    | some col =>
      rw [h1] at h
      have h : @Option.rec AV (fun _ => Option (List AV)) none (fun x => @Option.rec (List AV) (fun _ => Option (List AV)) none (fun l => some (x :: l)) (avL rs cols n (i + 1))) (avCol (i / rs) col) = some l := h
      cases h2 : avCol (i / rs) col with
      | none => rw [h2] at h; cases h
      | some x =>
        rw [h2] at h
        have h : @Option.rec (List AV) (fun _ => Option (List AV)) none (fun l => some (x :: l)) (avL rs cols n (i + 1)) = some l := h
        cases h3 : avL rs cols n (i + 1) with
        | none => rw [h3] at h; cases h
        | some l' =>
          rw [h3] at h
          have h : some (x :: l') = some l := h
          cases h
          have hik : i / rs < k := by
            rw [Nat.div_lt_iff_lt_mul h0]; omega
          obtain ⟨z, hz, hr⟩ := hc (i / rs) hik (i % rs) col (by rw [nth?_eq] at h1; exact h1)
          rw [show i / rs * rs + i % rs = i by rw [Nat.mul_comm]; exact Nat.div_add_mod i rs] at hz
          have := ih (i := i + 1) h3 (by omega)
          obtain ⟨hi, hz'⟩ := List.getElem?_eq_some_iff.1 hz
          rw [List.drop_eq_getElem_cons hi, hz']
          exact .cons (avCol_ok h2 hr) this
theorem gatherA_ok {N : NB} {φ : Phi} {w : World} {rs k : Nat} {vs : List Value} {c : AC} {l : List AV} (h0 : 0 < rs) (hl : vs.length = k * rs) (hc : ACRel N φ w rs k vs c) (h : gatherA rs k c = some l) : AVsRel φ l vs := by
  cases c with
  | cells l' =>
    have h : some l' = some l := h
    cases h
    exact hc
  | cols m cols =>
    obtain ⟨_, _, h3⟩ := hc
    have := avL_ok (φ := φ) h0 hl h3 (k * rs) (i := 0) h (by omega)
    rwa [List.drop_zero] at this
theorem storeFlat_ok {P : Program} {N : NB} {id r rs : Nat} {p : Pl} {φ : Phi} (h0 : 0 < rs) (hrs : p.rs = rs) (hp : φ id = some (some p)) (hps : p.spot = none) (l : List AV) : ∀ {zs : List Value} (_ : AVsRel φ l zs) (i : Nat) {M : Mem} {w : World} (_ : Rep N φ M w)
    {Q : Mem → Prop} {Qp : AV → Mem → Prop} (_ : (storeFlat id r rs l M i).holds Q Qp),
    ∃ w' M', (Go.storeCells (p.at r 0) zs i).run P w = .ok () w' ∧ Q M' ∧ Rep N φ M' w' ∧ Ext φ M w φ M' w' := by
  induction l with
  | nil => intro zs hz i M w hr Q Qp h; cases hz; exact ⟨w, M, rfl, h, hr, .refl _ _ _⟩
  | cons x l ih =>
    intro zs hz i M w hr Q Qp h
    cases hz with
    | cons hx ht =>
      rename_i z zs
      have h' : ((storeCell M id (r + i / rs) (i % rs) x).bind fun M => storeFlat id r rs l M (i + 1)).holds Q Qp := h
      rw [T.holds_bind] at h'
      obtain ⟨hrun, M1, hq, hr1, he1⟩ := storeCell_ok (P := P) hr hp hx h'
      obtain ⟨w2, M2, hrun2, hq2, hr2, he2⟩ := ih ht (i + 1) hr1 hq
      refine ⟨w2, M2, ?_, hq2, hr2, he1.trans he2⟩
      have ea : p.at (r + i / rs) (i % rs) = p.at r (0 + i) := by
        unfold Pl.at
        rw [hrs]
        have := Nat.div_add_mod i rs
        rw [Nat.add_mul, Nat.mul_comm (i / rs)]
        congr 2
        omega
      rw [ea] at hrun
      rw [Go.storeCells]
      simp only [at_add p hps, Sem.run_bind, hrun, Result.andThen_ok]
      rw [ea] at hrun2
      exact hrun2
theorem minN_eq (m n : Nat) : minN m n = Nat.min m n := by
  unfold minN
  rw [bif2_eq]
  by_cases h : m ≤ n
  · rw [if_pos (Nat.ble_eq_true_of_le h)]; exact (Nat.min_eq_left h).symm
  · rw [if_neg (fun e => h (Nat.le_of_ble_eq_true e))]; exact (Nat.min_eq_right (by omega)).symm
theorem copySrc_ok {P : Program} {tx : Und} {ti : TI} {N : NB} {φ : Phi} {M : Mem} {w : World} (hr : Rep N φ M w) {x : AV} {y : Value} (hx : AVRel φ x y) {n : Nat} {f : Nat → List AV → T (AV × Mem)}
    {Q : AV × Mem → Prop} {Qp : AV → Mem → Prop} (h : (copySrc tx ti M n x f).holds Q Qp) :
    ∃ k l vs m, (f k l).holds Q Qp ∧ (Builtin.lenOf y).run P w = .ok m w ∧ Nat.min m n = k ∧ (Builtin.firstCells ti.size k y).run P w = .ok vs.toArray w ∧ (0 < ti.size → AVsRel φ l vs) ∧ (k = 0 → l = [] ∧ vs = []) := by
  unfold copySrc at h
  cases tx with
  | sl e =>
    cases hx with
    | v =>
      obtain ⟨rfl, h⟩ := nilSl_ok (show (nilSl y (f 0 [])).holds Q Qp from h)
      exact ⟨0, [], [], 0, h, rfl, Nat.min_eq_left (Nat.zero_le _), run_firstCells_none w ti.size 0 0 0, fun _ => .nil, fun _ => ⟨rfl, rfl⟩⟩
    | e A cc => exact ⟨0, [], [], 0, h, rfl, Nat.min_eq_left (Nat.zero_le _), run_firstCells_some w ti.size 0 A 0 cc [] (by simp) (by simp), fun _ => .nil, fun _ => ⟨rfl, rfl⟩⟩
    | sl id r m cap pl cc hp h0 hcap hle hk hss =>
      obtain ⟨h, hrs⟩ := rsIs_ok hr (show (rsIs M id ti.size (acOf (M.get id) r (minN m n) fun c => onO (gatherA ti.size (minN m n) c) fun l => f (minN m n) l)).holds Q Qp from h)
      have h0' : pl = none → minN m n = 0 := fun e => by rw [minN_eq, h0 e]; exact Nat.min_eq_left (Nat.zero_le _)
      obtain ⟨c, vs, h, hl, hrel, hone, hcells⟩ := acOf_ok hr hp hrs h0' h
      obtain ⟨l, hg, h⟩ := onO_ok h
      refine ⟨minN m n, l, vs, m, h, rfl, (minN_eq m n).symm, ?_, fun hz => gatherA_ok hz hl hrel hg, fun e => ?_⟩
      · cases pl with
        | none =>
          have e := h0' rfl
          rw [e] at hl ⊢
          have : vs = [] := List.length_eq_zero_iff.1 (by rw [hl]; simp)
          subst this
          exact run_firstCells_none w ti.size 0 m cc
        | some p => exact run_firstCells_some w ti.size _ _ m cc vs hl (hcells p rfl)
      · rw [e] at hl hrel hg
        have hv : vs = [] := List.length_eq_zero_iff.1 (by rw [hl]; simp)
        subst hv
        cases c with
        | cells l' =>
          have hg : some l' = some l := hg
          cases hg
          cases hrel
          exact ⟨rfl, rfl⟩
        | cols m' cols =>
          have hg : avL ti.size cols (0 * ti.size) 0 = some l := hg
          rw [Nat.zero_mul] at hg
          have hg : some [] = some l := hg
          cases hg; exact ⟨rfl, rfl⟩
    | _ => exact h.elim
  | str =>
    obtain ⟨b, rfl, h⟩ := onS_ok (show (onS x fun b => .br (Nat.beq ti.size 1) (f (minN b.size n) (((bytesCol b).take (minN b.size n)).map (.i .u8))) .fail).holds Q Qp from h)
    cases hx
    obtain ⟨h1, h⟩ := br_ok h
    have h1 : ti.size = 1 := Nat.eq_of_beq_eq_true h1
    have hle : minN b.size n ≤ b.size := by rw [minN_eq]; exact Nat.min_le_left _ _
    generalize hk : minN b.size n = k at *
    refine ⟨k, _, (b.data.toList.take k).map (fun b => Value.int .u8 b.toNat), b.size, h, rfl, by rw [← hk, minN_eq], ?_, fun _ => ?_, fun e => by rw [e]; exact ⟨rfl, rfl⟩⟩
    · show (pure ((b.extract 0 k).data.map fun b => Value.int .u8 b.toNat) : Sem (Array Value)).run P w = _
      rw [Sem.run_pure]
      congr 1
      apply Array.ext'
      rw [Array.toList_map]
      congr 1
      simp
    · unfold bytesCol
      rw [← List.map_take, List.map_map]
      exact AVsRel.map _ _ _ fun x _ => .i _ _
  | _ => exact h.elim
theorem run_copy {P : Program} {w w' : World} {t el tx ty : TypeId} {sz m n c k : Nat} {base : Option Addr} {y : Value} {vs : List Value} (ht : P.underlying t = some (.slice el)) (hs : (sizeOf el).run P w = .ok sz w) (h1 : (Builtin.lenOf y).run P w = .ok m w) (hk : Nat.min m n = k)
    (h2 : (Builtin.firstCells sz k y).run P w = .ok vs.toArray w) (h3 : ∀ a, base = some a → (Go.storeCells a vs).run P w = .ok () w') (h4 : base = none → w' = w) :
    (Builtin.copy_ #[t, tx] ty #[.slice base n c, y]).run P w = .ok (.int .i64 k) w' := by
  subst hk
  unfold Builtin.copy_
  cases base with
  | none =>
    have := h4 rfl; subst this
    simp [run_underlying ht, h1, hs, h2, goInt]
  | some a =>
    have := h3 a rfl
    simp [run_underlying ht, h1, hs, h2, this, goInt]
theorem evCopy_ok {P : Program} {tt : TT} (tok : TTok P tt) {N : NB} {φ : Phi} {M : Mem} {w : World} (hr : Rep N φ M w) {t tx ty : TypeId} {s x : AV} {sv y : Value} (hs : AVRel φ s sv) (hx : AVRel φ x y)
    {Q : AV × Mem → Prop} {Qp : AV → Mem → Prop} (h : (evCopy tt M t tx s x).holds Q Qp) : ∃ z w', (Builtin.copy_ #[t, tx] ty #[sv, y]).run P w = .ok z w' ∧ Good N φ M w Q z w' := by
  unfold evCopy at h
  cases hu : (tt t).u with
  | sl el =>
    rw [hu] at h
    have ht := (tok t (by rw [hu]; simp)).und
    rw [hu] at ht
    have ht : P.underlying t = some (.slice el) := ht
    obtain ⟨hb, h⟩ := onK_both (show (onK (tt el).u (onK (tt tx).u .fail (copyDst (tt tx).u (tt el) M s x)) (onK (tt tx).u .fail (copyDst (tt tx).u (tt el) M s x))).holds Q Qp from h)
    have te := tok el hb
    rcases onK_ok h with ⟨_, _, h⟩ | ⟨hbx, _, h⟩
    · exact h.elim
    have hsz : (sizeOf el).run P w = .ok (tt el).size w := run_sizeOf' te w
    unfold copyDst at h
    cases hs with
    | v =>
      obtain ⟨e, h'⟩ := nilSl_ok (show (nilSl sv (copySrc (tt tx).u (tt el) M 0 x fun _ _ => .ret (.i .i64 0, M))).holds Q Qp from h)
      clear h
      subst e
      obtain ⟨k, l, vs, m, h, h1, hk, h2, _, _⟩ := copySrc_ok (P := P) hr hx h'
      have : k = 0 := by rw [← hk]; exact Nat.min_eq_right (Nat.zero_le _)
      subst this
      exact ⟨_, w, run_copy ht hsz h1 hk h2 (fun a e => by cases e) (fun _ => rfl), .here hr h (.i _ _)⟩
    | e A cc =>
      obtain ⟨k, l, vs, m, h, h1, hk, h2, hrel, hl⟩ := copySrc_ok (P := P) hr hx (show (copySrc (tt tx).u (tt el) M 0 x fun _ _ => .ret (.i .i64 0, M)).holds Q Qp from h)
      have : k = 0 := by rw [← hk]; exact Nat.min_eq_right (Nat.zero_le _)
      subst this
      have hv := (hl rfl).2
      subst hv
      exact ⟨_, w, run_copy ht hsz h1 hk h2 (fun a e => by cases e; rfl) (fun e => by cases e), .here hr h (.i _ _)⟩
    | sl id r n cap pl cc hp h0 hcap hle hk hss =>
      obtain ⟨hz, h⟩ := br_ok (show (T.br (Nat.blt 0 (tt el).size) (rsIs M id (tt el).size (copySrc (tt tx).u (tt el) M n x fun k l => copyTo M id r (tt el).size k l)) .fail).holds Q Qp from h)
      have hz : 0 < (tt el).size := Nat.le_of_ble_eq_true hz
      obtain ⟨h, hrs⟩ := rsIs_ok hr h
      obtain ⟨k, l, vs, m, h, h1, hk', h2, hrel, hl⟩ := copySrc_ok (P := P) hr hx h
      have hrel := hrel hz
      have h : ((storeFlat id r (tt el).size l M 0).bind fun M => .ret (.i .i64 (k : Int), M)).holds Q Qp := h
      rw [T.holds_bind] at h
      have hkn : k ≤ n := by rw [← hk']; exact Nat.min_le_right _ _
      by_cases hk0 : k = 0
      · obtain ⟨e1, e2⟩ := hl hk0
        subst e1 e2
        have h : Q (.i .i64 (k : Int), M) := h
        refine ⟨_, w, run_copy ht hsz h1 hk' h2 (fun a e => rfl) (fun _ => rfl), .here hr h (.i _ _)⟩
      · cases pl with
        | none => exact absurd (h0 rfl) (by omega)
        | some p =>
          obtain ⟨w', M', hrun, hq, hr', he⟩ := storeFlat_ok (P := P) hz (hrs p hp) hp (hss p rfl (by omega)) l hrel 0 hr h
          refine ⟨_, w', run_copy ht hsz h1 hk' h2 (fun a e => by cases e; exact hrun) (fun e => by cases e), φ, _, M', hq, .i _ _, hr', he⟩
    | _ => exact h.elim
  | _ => rw [hu] at h; exact h.elim
theorem evClear_ok {P : Program} {tt : TT} (tok : TTok P tt) {N : NB} {φ : Phi} {M : Mem} {w : World} (hr : Rep N φ M w) {t ty : TypeId} {ts' : Array TypeId} {zs' : Array Value} {x : AV} {y : Value} (hx : AVRel φ x y) (ht1 : ts'[0]? = some t) (hz1 : zs'[0]? = some y)
    {Q : AV × Mem → Prop} {Qp : AV → Mem → Prop} (h : (evClear tt M t x).holds Q Qp) : ∃ z w', (Builtin.clear_ ts' ty zs').run P w = .ok z w' ∧ Good N φ M w Q z w' := by
  unfold evClear at h
  cases hu : (tt t).u with
  | sl el =>
    rw [hu] at h
    have ht := (tok t (by rw [hu]; simp)).und
    rw [hu] at ht
    have ht : P.underlying t = some (.slice el) := ht
    obtain ⟨hb, h⟩ := onK_both (show (onK (tt el).u (clearSl (tt el) M x) (clearSl (tt el) M x)).holds Q Qp from h)
    have te := tok el hb
    obtain ⟨i, z, hi, hsz, hbt, hz, hzz, hzs⟩ := te.info
    have rz : (zeroValue el).run P w = .ok z w := by simp [zeroValue, typeInfo, program, Sem.run, hi, hz]
    unfold clearSl at h
    cases hx with
    | v =>
      obtain ⟨e, h'⟩ := nilSl_ok (show (nilSl y (.ret (.tup [], M))).holds Q Qp from h)
      subst e
      exact ⟨_, w, by simp [Builtin.clear_, ht1, hz1, run_underlying ht], .here hr h' (.tup _ _ .nil)⟩
    | e A cc => exact ⟨_, w, by simp [Builtin.clear_, ht1, hz1, run_underlying ht], .here hr h (.tup _ _ .nil)⟩
    | sl id r n cap pl cc hp h0 hcap hle hk hss =>
      obtain ⟨hz0, h⟩ := br_ok (show (T.br (Nat.blt 0 (tt el).size) (rsIs M id (tt el).size (.br (Nat.beq n 0) (.ret (.tup [], M)) ((storeFlat id r (tt el).size (tile (tt el).zero n) M 0).bind fun M => .ret (.tup [], M)))) .fail).holds Q Qp from h)
      have hz0 : 0 < (tt el).size := Nat.le_of_ble_eq_true hz0
      obtain ⟨⟨h1, h2⟩, hrs⟩ := rsIs_ok hr h
      by_cases hn : n = 0
      · subst hn
        have hq : Q (.tup [], M) := h1 rfl
        cases pl <;> exact ⟨_, w, by simp [Builtin.clear_, ht1, hz1, run_underlying ht], .here hr hq (.tup _ _ .nil)⟩
      · have hb : Nat.beq n 0 = false := by
          cases hb : Nat.beq n 0 with
          | false => rfl
          | true => exact absurd (Nat.eq_of_beq_eq_true hb) hn
        have h : ((storeFlat id r (tt el).size (tile (tt el).zero n) M 0).bind fun M => .ret (.tup [], M)).holds Q Qp := h2 hb
        rw [T.holds_bind] at h
        cases pl with
        | none => exact absurd (h0 rfl) hn
        | some p =>
          have hrel : AVsRel φ (tile (tt el).zero n) (Builtin.zeroCells z.cells n).toList := by
            have := zero_tile (φ := φ) (n := n) hzs hz0
            rw [← hzz]
            unfold Builtin.zeroCells
            rw [hzs] at this ⊢
            exact this
          obtain ⟨w', M', hrun, hq, hr', he⟩ := storeFlat_ok (P := P) hz0 (hrs p hp) hp (hss p rfl (by omega)) _ hrel 0 hr h
          refine ⟨_, w', ?_, φ, _, M', hq, .tup _ _ .nil, hr', he⟩
          cases n with
          | zero => exact absurd rfl hn
          | succ n => simp [Builtin.clear_, ht1, hz1, run_underlying ht, rz, hrun]
    | _ => exact h.elim
  | _ => rw [hu] at h; exact h.elim
end Go.Eng

set_option autoImplicit false
namespace Go.Eng
open Go Go.RowKit

/-! ## More that is compared -/
def CmpSh (t : TypeId) (u v : Value) : Prop := binOp .eql t u v = (do pure (.bool (← Op.equal t u v))) ∧ binOp .neq t u v = (do pure (.bool (!(← Op.equal t u v))))
theorem cmpR_ok {P : Program} {N : NB} {φ : Phi} {M : Mem} {w : World} (hr : Rep N φ M w) {op : BinOp} {t : TypeId} {x y : Operand} {u v : Value} {r : Bool} {Q : AV × Mem → Prop} {Qp : AV → Mem → Prop} (h : (cmpR op M r).holds Q Qp)
    (hsh : CmpSh t u v) (hg : (eqGuard op t x y u v).run P w = .ok () w) (he : (Op.equal t u v).run P w = .ok r w) : ∃ z, (do eqGuard op t x y u v; binOp op t u v : Sem Value).run P w = .ok z w ∧ Good N φ M w Q z w := by
  cases op with
  | eql => exact ⟨.bool r, by simp only [Sem.run_bind, hg, Result.andThen_ok, hsh.1, he, Sem.run_pure], .here hr h (.b _)⟩
  | neq => exact ⟨.bool (!r), by simp only [Sem.run_bind, hg, Result.andThen_ok, hsh.2, he, Sem.run_pure], .here hr h (.b _)⟩
  | _ => exact h.elim

theorem eqCell_ok {P : Program} {t : TypeId} {k : CK} (hk : KindOk P t k) {φ : Phi} {w : World} {a b : AV} {u v : Value} (hu : AVRel φ a u) (hv : AVRel φ b v) {β : Type} {f : Bool → T β} {Q : β → Prop} {Qp : AV → Mem → Prop} (h : (eqCell k a b f).holds Q Qp) (d : Nat) :
    ∃ r, (Op.equalIn (d + 1) t u v).run P w = .ok r w ∧ (f r).holds Q Qp := by
  cases k with
  | int k =>
    obtain ⟨ka, x, rfl, h⟩ := onI_ok (show (onI a fun ka x => onI b fun kb y => .br (decide (ka = kb)) (f (x == y)) .fail).holds Q Qp from h)
    obtain ⟨kb, y, rfl, h⟩ := onI_ok h
    obtain ⟨e, h'⟩ := br_ok h
    clear h
    have e := of_decide_eq_true e
    subst e
    cases hu; cases hv
    exact ⟨_, run_equalIn_int w d t ka k x y hk, h'⟩
  | str =>
    obtain ⟨x, rfl, h⟩ := onS_ok (show (onS a fun x => onS b fun y => f (x.toList == y.toList)).holds Q Qp from h)
    obtain ⟨y, rfl, h⟩ := onS_ok h
    cases hu; cases hv
    exact ⟨_, run_equalIn_string w d t x y hk, h⟩
  | bool =>
    obtain ⟨x, rfl, h⟩ := onB_ok (show (onB a fun x => onB b fun y => f (x == y)).holds Q Qp from h)
    obtain ⟨y, rfl, h⟩ := onB_ok h
    cases hu; cases hv
    exact ⟨_, run_equalIn_bool' w d t x y hk, h⟩
  | _ => exact h.elim

theorem eqFs_ok {P : Program} {tt : TT} (tok : TTok P tt) {φ : Phi} {w : World} {l m : List AV} {xs ys : Array Value} (hl : AVsRel φ l xs.toList) (hm : AVsRel φ m ys.toList) {β : Type} (d : Nat) (fds : List Field) (hn : ∀ f ∈ fds, f.name ≠ "_") :
    ∀ {k : Bool → T β} {Q : β → Prop} {Qp : AV → Mem → Prop} (_ : (eqFs tt l m (fds.map fun f => (f.offset, f.type, P.cellsOf f.type)) k).holds Q Qp), ∃ r, (Op.eqFields (d + 1) xs ys fds).run P w = .ok r w ∧ (k r).holds Q Qp := by
  induction fds with
  | nil => intro k Q Qp h; exact ⟨true, by simp [Op.eqFields], h⟩
  | cons f fds ih =>
    intro k Q Qp h
    have h : ((sel l f.offset).bind fun a => (sel m f.offset).bind fun b => onK (tt f.type).u .fail (eqCell (tt f.type).kind a b fun r => eqFs tt l m (fds.map fun f => (f.offset, f.type, P.cellsOf f.type)) fun s => k (r && s))).holds Q Qp := h
    rw [T.holds_bind] at h
    obtain ⟨a, ha, h⟩ := sel_ok h
    rw [T.holds_bind] at h
    obtain ⟨b, hb, h⟩ := sel_ok h
    rcases onK_ok h with ⟨_, _, h⟩ | ⟨hbad, hleaf, h⟩
    · exact h.elim
    have te := tok _ hbad
    obtain ⟨u, hu, hur⟩ := hl.get _ _ ha
    obtain ⟨v, hv, hvr⟩ := hm.get _ _ hb
    obtain ⟨r, hr, h⟩ := eqCell_ok (w := w) te.kind hur hvr h d
    obtain ⟨s, hs, h⟩ := ih (fun f hf => hn f (by simp [hf])) h
    have pa : (part f.type xs f.offset).run P w = .ok u w := by
      have hu : xs[f.offset]? = some u := by simpa using hu
      simp [part, run_isAgg_false te hleaf, hu]
    have pb : (part f.type ys f.offset).run P w = .ok v w := by
      have hv : ys[f.offset]? = some v := by simpa using hv
      simp [part, run_isAgg_false te hleaf, hv]
    refine ⟨r && s, ?_, h⟩
    cases r with
    | false => simp [Op.eqFields, hn f (by simp), pa, pb, hr]
    | true => simp [Op.eqFields, hn f (by simp), pa, pb, hr, hs]

section
variable {P : Program} {w : World} {t : TypeId}
theorem eq_ptr {e : TypeId} (h : P.underlying t = some (.pointer e)) (d : Nat) (a : Addr) : (Op.equalIn (d + 1) t (.pointer (some a)) (.pointer none)).run P w = .ok false w ∧ (Op.equalIn (d + 1) t (.pointer none) (.pointer (some a))).run P w = .ok false w := by
  constructor <;> simp [Op.equalIn, run_underlying h]
theorem eq_sl {e : TypeId} (h : P.underlying t = some (.slice e)) (d : Nat) (x : Option Addr) (n c : Nat) : (Op.equalIn (d + 1) t (.slice x n c) (.slice none 0 0)).run P w = .ok x.isNone w ∧ (Op.equalIn (d + 1) t (.slice none 0 0) (.slice x n c)).run P w = .ok x.isNone w := by
  cases x <;> constructor <;> simp [Op.equalIn, run_underlying h]
theorem eq_map {k e : TypeId} (h : P.underlying t = some (.map k e)) (d : Nat) (b : Nat) : (Op.equalIn (d + 1) t (.map (some b)) (.map none)).run P w = .ok false w ∧ (Op.equalIn (d + 1) t (.map none) (.map (some b))).run P w = .ok false w := by
  constructor <;> simp [Op.equalIn, run_underlying h]
theorem eq_fn {a b : Array TypeId} {c : Bool} (h : P.underlying t = some (.func a b c)) (d : Nat) (f : Fn) (x y : Array Value) : (Op.equalIn (d + 1) t (.func f x y) .nilFunc).run P w = .ok false w ∧ (Op.equalIn (d + 1) t .nilFunc (.func f x y)).run P w = .ok false w := by
  constructor <;> simp [Op.equalIn, run_underlying h]
theorem eq_ifc {ms : Array (String × TypeId)} (h : P.underlying t = some (.interface ms)) (d : Nat) (s : TypeId) (x : Value) : (Op.equalIn (d + 1) t (.iface s x) .nilIface).run P w = .ok false w ∧ (Op.equalIn (d + 1) t .nilIface (.iface s x)).run P w = .ok false w := by
  constructor <;> simp [Op.equalIn, run_underlying h]
end
theorem nilA_ok {P : Program} {t : TypeId} {ti : TI} (hti : TIok P t ti) {N : NB} {φ : Phi} {M : Mem} {w : World} (hr : Rep N φ M w) {a : AV} {u v : Value} (hu : AVRel φ a u) {β : Type} {f : Bool → T β} {Q : β → Prop} {Qp : AV → Mem → Prop} (h : (nilA M ti a v f).holds Q Qp) :
    ∃ r, (Op.equal t u v).run P w = .ok r w ∧ (Op.equal t v u).run P w = .ok r w ∧ ((∀ op x y, (eqGuard op t x y u v).run P w = .ok () w ∧ (eqGuard op t x y v u).run P w = .ok () w) ∧ CmpSh t u v ∧ CmpSh t v u) ∧ (f r).holds Q Qp := by
  have hk := hti.kind
  have hun := hti.und
  cases hu with
  | ptr id r c p hp =>
    have h : (nilPtr v (ifK ti.kind (f false) .fail .fail)).holds Q Qp := h
    unfold nilPtr at h
    split at h
    · cases hc : ti.kind <;> rw [hc] at h hk <;> first | exact h.elim | skip
      obtain ⟨e, hd⟩ := hk
      exact ⟨false, (eq_ptr hd 9999 _).1, (eq_ptr hd 9999 _).2, ⟨fun op x y => by cases op <;> exact ⟨rfl, rfl⟩, ⟨rfl, rfl⟩, ⟨rfl, rfl⟩⟩, h⟩
    · exact h.elim
  | sl id r n cap x cc hp h0 hc hle hkk hss =>
    obtain ⟨hv, h'⟩ := nilSl_ok (show (nilSl v (onUsl ti.u (nilFlag (M.get id) f))).holds Q Qp from h)
    clear h
    subst hv
    have h : (onUsl ti.u (nilFlag (M.get id) f)).holds Q Qp := h'
    clear h'
    cases hcu : ti.u <;> rw [hcu] at h hun <;> first | exact h.elim | skip
    rename_i el
    have hun : P.underlying t = some (.slice el) := hun
    have h : (nilFlag (M.get id) f).holds Q Qp := h
    refine ⟨x.isNone, ?_, ?_, ⟨fun op x y => by cases op <;> exact ⟨rfl, rfl⟩, ⟨rfl, rfl⟩, ⟨rfl, rfl⟩⟩, ?_⟩
    · have := (eq_sl (w := w) hun 9999 (x.map fun p => p.at r 0) n cc).1
      rw [Option.isNone_map] at this; exact this
    · have := (eq_sl (w := w) hun 9999 (x.map fun p => p.at r 0) n cc).2
      rw [Option.isNone_map] at this; exact this
    · have ho := hr.objs id
      unfold nilFlag at h
      cases hg : M.get id with
      | dead => rw [hg] at h; exact h.elim
      | map es cl => rw [hg] at h; exact h.elim
      | ro nil n' cols =>
        rw [hg] at h ho
        obtain ⟨_, y, hy, hn, _⟩ := ho
        rw [hp] at hy; cases hy
        rw [← hn]; exact h
      | own e rs cells =>
        rw [hg] at h ho
        obtain ⟨q, hq, _⟩ := ho
        rw [hp] at hq; cases hq
        exact h
      | vec e n' cols =>
        rw [hg] at h ho
        obtain ⟨_, q, hq, _⟩ := ho
        rw [hp] at hq; cases hq
        exact h
  | e A cc =>
    obtain ⟨hv, h'⟩ := nilSl_ok (show (nilSl v (onUsl ti.u (f false))).holds Q Qp from h)
    clear h
    subst hv
    have h : (onUsl ti.u (f false)).holds Q Qp := h'
    clear h'
    cases hcu : ti.u <;> rw [hcu] at h hun <;> first | exact h.elim | skip
    rename_i el
    have hun : P.underlying t = some (.slice el) := hun
    exact ⟨false, (eq_sl hun 9999 (some A) 0 cc).1, (eq_sl hun 9999 (some A) 0 cc).2, ⟨fun op x y => by cases op <;> exact ⟨rfl, rfl⟩, ⟨rfl, rfl⟩, ⟨rfl, rfl⟩⟩, h⟩
  | mp id p hp =>
    have h : (nilMap v (ifK ti.kind .fail (f false) .fail)).holds Q Qp := h
    unfold nilMap at h
    split at h
    · cases hc : ti.kind <;> rw [hc] at h hk <;> first | exact h.elim | skip
      obtain ⟨k, e, hd⟩ := hk
      exact ⟨false, (eq_map hd 9999 _).1, (eq_map hd 9999 _).2, ⟨fun op x y => by cases op <;> exact ⟨rfl, rfl⟩, ⟨rfl, rfl⟩, ⟨rfl, rfl⟩⟩, h⟩
    · exact h.elim
  | fn g l ca hl =>
    have h : (nilFn v (ifK ti.kind .fail .fail (f false))).holds Q Qp := h
    unfold nilFn at h
    split at h
    · cases hc : ti.kind <;> rw [hc] at h hk <;> first | exact h.elim | skip
      obtain ⟨k, e, g, hd⟩ := hk
      exact ⟨false, (eq_fn hd 9999 _ _ _).1, (eq_fn hd 9999 _ _ _).2, ⟨fun op x y => by cases op <;> exact ⟨rfl, rfl⟩, ⟨rfl, rfl⟩, ⟨rfl, rfl⟩⟩, h⟩
    · exact h.elim
  | ifc s x y hx =>
    have h : (nilIfc v (onUifc ti.u (f false))).holds Q Qp := h
    unfold nilIfc at h
    split at h
    · cases hcu : ti.u <;> rw [hcu] at h hun <;> first | exact h.elim | skip
      obtain ⟨ms, hd⟩ := hun
      exact ⟨false, (eq_ifc hd 9999 _ _).1, (eq_ifc hd 9999 _ _).2, ⟨fun op x y => by cases op <;> exact ⟨rfl, rfl⟩, ⟨rfl, rfl⟩, ⟨rfl, rfl⟩⟩, h⟩
    · exact h.elim
  | _ => exact h.elim

theorem evBin_ok {P : Program} {tt : TT} (tok : TTok P tt) {N : NB} {φ : Phi} {M : Mem} {w : World} (hr : Rep N φ M w) {op : BinOp} {t : TypeId} (ht : (tt t).u ≠ .bad) {x y : Operand} {a b : AV} {u v : Value} (hu : AVRel φ a u) (hv : AVRel φ b v)
    {Q : AV × Mem → Prop} {Qp : AV → Mem → Prop} (h : (evBin P tt M op t x y a b).holds Q Qp) : ∃ z, (do eqGuard op t x y u v; binOp op t u v : Sem Value).run P w = .ok z w ∧ Good N φ M w Q z w := by
  unfold evBin at h
  rw [bif2_eq] at h
  split at h
  · obtain ⟨c, rfl, h⟩ := onV_ok h
    cases hv
    obtain ⟨r, h1, _, h3, h⟩ := nilA_ok (tok t ht) hr hu h
    exact cmpR_ok hr h h3.2.1 (h3.1 op x y).1 h1
  rw [bif2_eq] at h
  split at h
  · obtain ⟨c, rfl, h⟩ := onV_ok h
    cases hu
    obtain ⟨r, _, h2, h3, h⟩ := nilA_ok (tok t ht) hr hv h
    exact cmpR_ok hr h h3.2.2 (h3.1 op x y).2 h2
  have plain : (retM M (binA P (tt t).kind op t x y a b)).holds Q Qp → ∃ z, (do eqGuard op t x y u v; binOp op t u v : Sem Value).run P w = .ok z w ∧ Good N φ M w Q z w := by
    intro h
    obtain ⟨z, xa, h1, h2, h3⟩ := binA_ok (w := w) tok ht (x := x) (y := y) hu hv (retM_ok h)
    exact ⟨z, h1, .here hr h2 h3⟩
  cases hu with
  | i => exact plain h
  | b => exact plain h
  | s => exact plain h
  | v => exact plain h
  | agg l xs hl =>
    obtain ⟨m, rfl, h⟩ := onAgg_ok (show (eqAgg tt t op M l b).holds Q Qp from h)
    obtain ⟨fs, hst, h⟩ := onSt_ok h
    obtain ⟨hc, h⟩ := br_ok h
    cases hv with
    | agg _ ys hm =>
      have ti := tok t ht
      obtain ⟨c1, c2, c3⟩ := ti.cmp hc
      have hun := ti.und
      rw [hst] at hun
      obtain ⟨fds, hf, hfs, _⟩ := hun
      rw [hfs] at h
      have hfo : P.fieldsOf t = fds := by simp [Program.fieldsOf, hf]
      obtain ⟨r, hrun, h⟩ := eqFs_ok (P := P) (w := w) tok hl hm 9998 fds.toList (c3 fds hf) h
      refine cmpR_ok hr h ⟨rfl, rfl⟩ (run_eqGuard_agg w op t x y xs ys c2) ?_
      have := run_equalIn_struct (P := P) w 9999 t xs ys (by rw [hfo]; exact hf) c1
      rw [hfo, hrun] at this
      exact this
  | _ => exact h.elim

/-! ## Strings and bytes -/
theorem ifU8_ok {β : Type} {k : CK} {t : T β} {Q : β → Prop} {Qp : AV → Mem → Prop} (h : (ifU8 k t).holds Q Qp) : k = .int .u8 ∧ t.holds Q Qp := by
  cases k with
  | int k => cases k <;> first | exact ⟨rfl, h⟩ | exact h.elim
  | _ => exact h.elim
theorem toBytes_ok {P : Program} {N : NB} {φ : Phi} {M : Mem} {w : World} (hr : Rep N φ M w) {s d el : TypeId} {b : ByteArray} {u : TypeDesc} (hs : P.underlying s = some u) (hd : P.underlying d = some (.slice el)) (he : P.underlying el = some (.int .u8))
    {Q : AV × Mem → Prop} {Qp : AV → Mem → Prop} (h : (toBytes M el b).holds Q Qp) : ∃ z w', (convert s d (.string b)).run P w = .ok z w' ∧ Good N φ M w Q z w' := by
  refine ⟨_, _, Lib.run_convert_string_bytes w s d el b hs hd he, ?_⟩
  have hge := grownCap_ge w b.size 0 el
  have hbl : b.data.toList.length = b.size := by rw [Array.length_toList]; rfl
  have hsz : (Lib.bytesCells w el b).size = grownCap w b.size 0 el := by
    simp only [Lib.bytesCells, Array.size_append, Array.size_map, Array.size_replicate]
    have : b.data.size = b.size := rfl
    omega
  let p : Pl := ⟨w.heap.size, 0, 1, grownCap w b.size 0 el, none⟩
  have hf := (hr.fresh M.next (Nat.le_refl _)).2
  have hlen : (bytesCol b).length = b.size := by unfold bytesCol; rw [List.length_map, Array.length_toList]; rfl
  -- the block is laid, then marked behind its end
  have hlaid : ∀ (w' : World), w'.heap.size = w.heap.size + 1 → (∀ k, k < w.heap.size → w'.heap[k]? = w.heap[k]?) → w'.os = w.os → w'.tape = w.tape → w'.output = w.output →
      ObjRel N (updP φ M.next (some p)) w' M.next (.vec el b.size [.ci .u8 (bytesCol b)]) →
      Rep N (updP φ M.next (some p)) (M.new (.vec el b.size [.ci .u8 (bytesCol b)])) w' ∧ Ext φ M w (updP φ M.next (some p)) (M.new (.vec el b.size [.ci .u8 (bytesCol b)])) w' := by
    intro w' h1 h2 h3 h4 h5 hob
    have hle := updP_le (some p) hf
    have own : ∀ id q, isOwn ((M.new (.vec el b.size [.ci .u8 (bytesCol b)])).get id) → updP φ M.next (some p) id = some (some q) → (id = M.next ∧ q = p) ∨ (id ≠ M.next ∧ isOwn (M.get id) ∧ φ id = some (some q)) := by
      intro id q ho hq
      simp only [Mem.get_new] at ho
      by_cases e : id = M.next
      · subst e; left; simpa using hq.symm
      · right
        rw [if_neg e] at ho
        exact ⟨e, ho, by simpa [updP, e] using hq⟩
    have hpb : p.b = w.heap.size := rfl
    refine ⟨⟨fun id => ?_, fun id id' q q' ho1 ho' hq hq' e => ?_, fun id q ho1 hq => ?_, fun id hid => ?_, ?_⟩, ⟨hle, fun _ h => updP_lt _ h, by simp, rfl, h3, h4, h5, by omega, fun k hk _ => h2 k hk, fun id q ho1 hq hlt => ?_⟩⟩
    · simp only [Mem.get_new]
      split
      · rename_i e; subst e; exact hob
      · exact (hr.objs id).step hle (fun k hk => h2 k (Nat.lt_of_lt_of_le hk hr.size)) (fun ho1 q hq => h2 _ (hr.lt id q ho1 hq))
    · rcases own id q ho1 hq with ⟨rfl, rfl⟩ | ⟨k1, k2, k3⟩ <;> rcases own id' q' ho' hq' with ⟨rfl, rfl⟩ | ⟨k4, k5, k6⟩
      · rfl
      · have := hr.lt id' q' k5 k6; omega
      · have := hr.lt id q k2 k3; omega
      · exact hr.sep id id' q q' k2 k5 k3 k6 e
    · rcases own id q ho1 hq with ⟨rfl, rfl⟩ | ⟨k1, k2, k3⟩
      · rw [hpb]; exact hr.size
      · exact hr.high id q k2 k3
    · simp only [Mem.next_new] at hid
      have hne : id ≠ M.next := by omega
      simp only [Mem.get_new, if_neg hne]
      obtain ⟨k1, k2⟩ := hr.fresh id (by omega)
      exact ⟨k1, by simp [updP, hne, k2]⟩
    · have := hr.size; omega
    · rcases own id q ho1 hq with ⟨rfl, rfl⟩ | ⟨k1, k2, k3⟩
      · omega
      · exact ⟨id, q, k2, k3, rfl, fun h => h⟩
  have key := hlaid (Lib.bytesWorld w el b) (Lib.bytesWorld_size w el b) (fun k hk => Lib.bytesWorld_at_old w el b k hk) rfl rfl rfl (by
    refine ⟨fun c col hc => ?_, p, updP_self .., ⟨rfl, rfl⟩, rfl, ⟨_, _, Lib.bytesWorld_at_new w el b, by rw [hsz]; simp [p], .inr (by rw [hsz]; simp [p])⟩, hge, fun j hj c col hc => ?_⟩
    · cases c with
      | zero => simp at hc; subst hc; exact hlen
      | succ c => simp at hc
    · cases c with
      | succ c => simp at hc
      | zero =>
        simp at hc; subst hc
        refine ⟨.int .u8 (b.data.toList.getD j 0).toNat, ?_, ?_⟩
        · have := Lib.bytesWorld_cell w el b j hj
          rw [at_eq p rfl]
          simpa [p] using this
        · have := ColRel.ci (N := N) (w := Lib.bytesWorld w el b) .u8 (bytesCol b) j
          have hj' : j < b.data.toList.length := by omega
          rw [getD_of (x := ((b.data.toList[j]).toNat : Int)) (by simp only [bytesCol, List.getElem?_map, List.getElem?_eq_getElem hj', Option.map_some])] at this
          rw [getD_of (List.getElem?_eq_getElem hj')]
          exact this)
  refine ⟨_, _, _, h, ?_, key.1, key.2⟩
  have := AVRel.sl (φ := updP φ M.next (some p)) M.next 0 b.size none _ (grownCap w b.size 0 el) (updP_self ..) (fun h => by cases h) (fun c h => by cases h) hge (fun q h => by cases h; simp [p]) (fun q h _ => by cases h; rfl)
  simpa [Pl.at, p] using this
theorem ofBytes_ok {P : Program} {N : NB} {φ : Phi} {M : Mem} {w : World} (hr : Rep N φ M w) {s d el : TypeId} {ti : TI} (hs : P.underlying s = some (.slice el)) (hd : P.underlying d = some .string) (he : P.underlying el = some (.int .u8)) {id r n : Nat} {cap : Option Nat} {y : Value} (hx : AVRel φ (.sl id r n cap) y)
    {Q : AV × Mem → Prop} {Qp : AV → Mem → Prop} (h : (ofBytes ti M id r n).holds Q Qp) : ∃ z w', (convert s d y).run P w = .ok z w' ∧ Good N φ M w Q z w' := by
  obtain ⟨h1, h⟩ := br_ok h
  have h1 : ti.size = 1 := Nat.eq_of_beq_eq_true h1
  obtain ⟨h, hrs⟩ := rsIs_ok hr h
  cases hx with
  | sl _ _ _ _ x cc hp h0 hcap hle hk hss =>
    obtain ⟨c, vs, h2, hl, hrel, hone, hcells⟩ := acOf_ok hr hp hrs h0 h
    obtain ⟨c', hc', h3⟩ := onO_ok h2
    obtain ⟨l, hl', h5⟩ := onO_ok h3
    clear h h2 h3
    have hrel := normC_ok hrel hc'
    have hc2 : ∃ m, c' = .cols m [.ci .u8 l] := by
      unfold u8col at hl'
      split at hl'
      · cases hl'; exact ⟨_, rfl⟩
      · cases hl'
    obtain ⟨m, rfl⟩ := hc2
    obtain ⟨rfl, hlen, hcols⟩ := hrel
    have hll : l.length = m := hlen 0 _ rfl
    have hvs : vs = l.map (Value.int .u8) := by
      apply List.ext_getElem?
      intro j
      by_cases hj : j < m
      · obtain ⟨z, hz, hzr⟩ := hcols j hj 0 _ rfl
        rw [h1] at hz
        simp only [Nat.mul_one, Nat.add_zero] at hz
        rw [hz, List.getElem?_map, List.getElem?_eq_getElem (by omega)]
        cases hzr
        rw [getD_of (List.getElem?_eq_getElem (by omega))]; rfl
      · rw [List.getElem?_eq_none (by rw [hl, h1]; omega), List.getElem?_eq_none (by rw [List.length_map]; omega)]
    have hfold : ∀ (l : List Int) (r : ByteArray), l.foldl (fun r n => r.push (UInt8.ofNat n.toNat)) r = ⟨r.data ++ (l.map fun n => UInt8.ofNat n.toNat).toArray⟩ := by
      intro l
      induction l with
      | nil => intro r; simp
      | cons a l ih => intro r; simp only [List.foldl_cons]; rw [ih]; simp [ByteArray.push]
    have hstr : l.foldl (fun r n => r.push (UInt8.ofNat n.toNat)) ByteArray.empty = strOf l := by
      rw [hfold, show ByteArray.empty.data = #[] from rfl]
      simp [strOf]
    cases x with
    | none =>
      have := h0 rfl
      subst this
      have hl0 : l = [] := List.length_eq_zero_iff.1 hll
      subst hl0
      refine ⟨.string .empty, w, ?_, .here hr h5 (.s _)⟩
      rw [Option.map_none, run_convert_bytes_string w s d el none 0 cc hs he hd]
      simp [Conv.bytesToString]
    | some p =>
      refine ⟨.string (strOf l), w, ?_, .here hr h5 (.s _)⟩
      rw [Option.map_some, run_convert_bytes_string w s d el _ m cc hs he hd]
      have hld := run_loadCells_list (P := P) w (p.at r 0) vs (hcells p rfl)
      rw [hl, h1, Nat.mul_one, hvs] at hld
      rw [run_bytesToString w (p.at r 0) m cc l hld, hstr]

/-- A row gets the run-time's mark. -/
theorem markSl_ok {P : Program} {N : NB} {φ : Phi} {M : Mem} {w : World} (hr : Rep N φ M w) {s el : TypeId} (hs : P.underlying s = some (.slice el)) (he : P.underlying el = some (.int .u8)) {id r n : Nat} {cap : Option Nat} {y : Value} (hx : AVRel φ (.sl id r n cap) y)
    {Q : AV × Mem → Prop} {Qp : AV → Mem → Prop} (h : (markSl M id r n cap).holds Q Qp) : ∃ z w', (convert s s y).run P w = .ok z w' ∧ Good N φ M w Q z w' := by
  have hkey : Q (.sl id r n cap, M) ∧ M.lock ≤ id ∧ ∃ p e k, φ id = some (some p) ∧ isOwn (M.get id) ∧ OwnBlock w p.b e k := by
    have ho := hr.objs id
    unfold markSl at h
    cases hg : M.get id with
    | dead => rw [hg] at h; exact h.elim
    | map es cl => rw [hg] at h; exact h.elim
    | ro => rw [hg] at h; exact h.elim
    | own e rs cells =>
      rw [hg] at h ho
      obtain ⟨h1, h2⟩ := br_ok h
      obtain ⟨p, hp, _, _, hb, _⟩ := ho
      exact ⟨h2, Nat.le_of_ble_eq_true h1, p, _, _, hp, trivial, hb⟩
    | vec e m cols =>
      rw [hg] at h ho
      obtain ⟨h1, h2⟩ := br_ok h
      obtain ⟨_, p, hp, _, _, hb, _⟩ := ho
      exact ⟨h2, Nat.le_of_ble_eq_true h1, p, _, _, hp, trivial, hb⟩
  obtain ⟨hq, hl, p, e, k, hp, hown, hblk⟩ := hkey
  cases hx with
  | sl _ _ _ _ x cc hpx h0 hcap hle hk hss =>
    rw [hp] at hpx; cases hpx
    have hblk0 := hblk
    obtain ⟨cur, ⟨lo, hi⟩, hcur, hsz, hfz⟩ := hblk
    have hsh : w.shape? p.b = some (e, cur.size) := by simp [World.shape?, hcur]
    let w' := w.freeze ⟨p.b, cur.size, none⟩ 1
    have hheap : ∀ b, w'.heap[b]? = if b = p.b then some (.cells cur e (if lo == hi then (cur.size, cur.size + 1) else (min lo cur.size, max hi (cur.size + 1)))) else w.heap[b]? := by
      intro b
      show (w.freeze ⟨p.b, cur.size, none⟩ 1).heap[b]? = _
      unfold World.freeze
      rw [if_neg (by decide)]
      simp only [Array.getElem?_modify]
      by_cases hb : b = p.b
      · subst hb; simp [hcur]
      · rw [if_neg (Ne.symm hb), if_neg hb]
    have hcell : ∀ a, w'.cell? a = w.cell? a := by
      intro a
      simp only [World.cell?, hheap]
      by_cases hb : a.block = p.b
      · rw [if_pos hb, hb, hcur]
      · rw [if_neg hb]
    have hownb : ∀ b e' k', OwnBlock w b e' k' → OwnBlock w' b e' k' := by
      intro b e' k' ⟨c', f', h1, h2, h3⟩
      by_cases hb : b = p.b
      · subst hb
        rw [hcur] at h1
        cases h1
        refine ⟨cur, _, by rw [hheap, if_pos rfl], h2, .inr ?_⟩
        rcases h3 with h3 | h3
        · cases h3; simp [h2]
        · simp only at h3
          split
          · simp [h2]
          · simp only; omega
      · exact ⟨c', f', by rw [hheap, if_neg hb]; exact h1, h2, h3⟩
    have hN := hr.high id p hown hp
    have hsame : SameBelow N w w' := fun b hb => by rw [hheap, if_neg (by omega)]
    refine ⟨.slice (some (p.at r 0)) n cc, w', ?_, φ, .sl id r n cap, M, hq, .sl id r n cap (some p) cc hp h0 hcap hle hk hss, ⟨fun j => ?_, hr.sep, hr.high, hr.fresh, ?_⟩, ⟨.refl _, fun _ _ => rfl, Nat.le_refl _, rfl, ?_, ?_, ?_, ?_, fun b hb hno => ?_, fun j q h1 h2 _ => ⟨j, q, h1, h2, rfl, fun h => h⟩⟩⟩
    · simp [convert, run_underlying hs, run_underlying he, markStringish, Pl.at, hsh]
      rfl
    · have ho := hr.objs j
      cases hg : M.get j with
      | dead => exact hr.glob.same hsame
      | ro nil m cols =>
        rw [hg] at ho
        exact ho.step (.refl _) hsame (fun h => h.elim)
      | own e' rs cells =>
        rw [hg] at ho
        obtain ⟨q, k1, k2, k3, k4, k5, k6⟩ := ho
        refine ⟨q, k1, k2, k3, hownb _ _ _ k4, k5, fun i a ha => ?_⟩
        obtain ⟨z, hz, hzr⟩ := k6 i a ha
        exact ⟨z, (hcell _).trans hz, hzr⟩
      | vec e' m cols =>
        rw [hg] at ho
        obtain ⟨k0, q, k1, k2, k3, k4, k5, k6⟩ := ho
        refine ⟨k0, q, k1, k2, k3, hownb _ _ _ k4, k5, fun i hi c col hc => ?_⟩
        obtain ⟨z, hz, hzr⟩ := k6 i hi c col hc
        exact ⟨z, (hcell _).trans hz, hzr.same hsame⟩
      | map es cl =>
        rw [hg] at ho
        obtain ⟨q, k1, k2, k3⟩ := ho
        refine ⟨q, k1, k2, ?_⟩
        rw [hheap, if_neg]
        · exact k3
        · intro hb; rw [hb, hcur] at k3; cases k3
    · show N.n ≤ (w.freeze _ 1).heap.size
      have := hr.size
      simpa [World.freeze] using this
    · show (w.freeze _ 1).os = w.os; simp [World.freeze]
    · show (w.freeze _ 1).tape = w.tape; simp [World.freeze]
    · show (w.freeze _ 1).output = w.output; simp [World.freeze]
    · show w.heap.size ≤ (w.freeze _ 1).heap.size; simp [World.freeze]
    · rw [hheap, if_neg]
      intro e; exact hno id p hl hown hp e.symm

theorem onUslE_ok {β : Type} {u : Und} {f : TypeId → T β} {Q : β → Prop} {Qp : AV → Mem → Prop} (h : (onUslE u f).holds Q Qp) : ∃ el, u = .sl el ∧ (f el).holds Q Qp := by
  cases u <;> first | exact h.elim | exact ⟨_, rfl, h⟩
theorem evConv_ok {P : Program} {tt : TT} (tok : TTok P tt) {N : NB} {φ : Phi} {M : Mem} {w : World} (hr : Rep N φ M w) {s d : TypeId} (hd : (tt d).u ≠ .bad) (hs : ∃ e, P.underlying s = some e) {x : AV} {y : Value} (hx : AVRel φ x y)
    {Q : AV × Mem → Prop} {Qp : AV → Mem → Prop} (h : (evConv P tt M s d x).holds Q Qp) : ∃ z w', (convert s d y).run P w = .ok z w' ∧ Good N φ M w Q z w' := by
  have plain : (retM M (convA P (tt d) s d x)).holds Q Qp → ∃ z w', (convert s d y).run P w = .ok z w' ∧ Good N φ M w Q z w' := by
    intro h
    obtain ⟨z, xa, h1, h2, h3⟩ := convA_ok (w := w) tok hd hs hx (retM_ok h)
    exact ⟨z, w, h1, .here hr h2 h3⟩
  cases hx with
  | i => exact plain h
  | b => exact plain h
  | v => exact plain h
  | s b =>
    have hun := (tok d hd).und
    have h : (@Und.casesOn (fun _ => T (AV × Mem)) (tt d).u (fun el => onK (tt el).u .fail (ifU8 (tt el).kind (toBytes M el b))) (fun _ _ => .fail) (fun _ => .fail) (retM M (convA P (tt d) s d (.s b))) .fail .fail .fail).holds Q Qp := h
    cases hu : (tt d).u with
    | sl el =>
      rw [hu] at h hun
      rcases onK_ok h with ⟨_, _, h⟩ | ⟨hb, _, h⟩
      · exact h.elim
      obtain ⟨hk, h⟩ := ifU8_ok h
      have hk' := (tok el hb).kind
      rw [hk] at hk'
      obtain ⟨u, hs⟩ := hs
      exact toBytes_ok hr hs hun hk' h
    | str => rw [hu] at h; exact plain h
    | _ => rw [hu] at h; exact h.elim
  | sl id r n cap pl cc hp h0 hc hle hk hss =>
    have hun := (tok d hd).und
    have h : (@Und.casesOn (fun _ => T (AV × Mem)) (tt d).u (fun el => .br (Nat.beq s d) (onK (tt el).u .fail (ifU8 (tt el).kind (markSl M id r n cap))) .fail) (fun _ _ => .fail) (fun _ => .fail) (onUslE (tt s).u fun el => onK (tt el).u .fail (ifU8 (tt el).kind (ofBytes (tt el) M id r n))) .fail .fail .fail).holds Q Qp := h
    cases hu : (tt d).u with
    | str =>
      rw [hu] at h hun
      obtain ⟨el, hus, h⟩ := onUslE_ok h
      rcases onK_ok h with ⟨_, _, h⟩ | ⟨hb, _, h⟩
      · exact h.elim
      obtain ⟨hk', h⟩ := ifU8_ok h
      have hkk := (tok el hb).kind
      rw [hk'] at hkk
      have hsu := (tok s (by rw [hus]; simp)).und
      rw [hus] at hsu
      exact ofBytes_ok hr hsu hun hkk (.sl id r n cap pl cc hp h0 hc hle hk hss) h
    | sl el =>
      rw [hu] at h hun
      obtain ⟨hsd, h⟩ := br_ok h
      have hsd : s = d := Nat.eq_of_beq_eq_true hsd
      rcases onK_ok h with ⟨_, _, h⟩ | ⟨hb, _, h⟩
      · exact h.elim
      obtain ⟨hk', h⟩ := ifU8_ok h
      have hkk := (tok el hb).kind
      rw [hk'] at hkk
      rw [hsd]
      exact markSl_ok hr hun hkk (.sl id r n cap pl cc hp h0 hc hle hk hss) h
    | _ => rw [hu] at h; exact h.elim
  | _ => exact h.elim
end Go.Eng

set_option autoImplicit false
namespace Go.Eng
open Go Go.RowKit

theorem lenA_ok {P : Program} {tt : TT} (tok : TTok P tt) {φ : Phi} {w : World} {t ty : TypeId} (ht : (tt t).u ≠ .bad) {x : AV} {y : Value} (hx : AVRel φ x y) {Q : AV → Prop} {Qp : AV → Mem → Prop}
    (h : (lenA (tt t).u x).holds Q Qp) (ts : List TypeId) (ys : List Value) : Val P φ w Q (Builtin.len_ (t :: ts).toArray ty (y :: ys).toArray) := by
  have ti := (tok t ht).und
  cases hu : (tt t).u with
  | sl el =>
    rw [hu] at h ti
    have ti : P.underlying t = some (.slice el) := ti
    cases hx with
    | v =>
      cases y <;> first | (exact h.elim) | skip
      exact ⟨_, _, by simp [Builtin.len_, run_underlying ti, goInt], h, .i _ _⟩
    | sl id r n cap x cc hp hz hc hle hk => exact ⟨_, _, by simp [Builtin.len_, run_underlying ti, goInt], h, .i _ _⟩
    | e A cc => exact ⟨_, _, by simp [Builtin.len_, run_underlying ti, goInt], h, .i _ _⟩
    | _ => exact h.elim
  | arr n el =>
    rw [hu] at h ti
    have ti : P.underlying t = some (.array n el) := ti
    exact ⟨_, _, by simp [Builtin.len_, run_underlying ti, goInt], h, .i _ _⟩
  | str =>
    rw [hu] at h ti
    have ti : P.underlying t = some .string := ti
    obtain ⟨s, rfl, h⟩ := onS_ok h
    cases hx
    exact ⟨_, _, by simp [Builtin.len_, run_underlying ti, goInt], h, .i _ _⟩
  | st fs => rw [hu] at h; exact h.elim
  | leaf => rw [hu] at h; exact h.elim
  | ifc => rw [hu] at h; exact h.elim
  | bad => exact (ht hu).elim

theorem fold2_ok {P : Program} {φ : Phi} {w : World} {f : AV → AV → T AV} {g : Value → Value → Sem Value} {Qp : AV → Mem → Prop}
    (hf : ∀ a b u v (Q : AV → Prop), AVRel φ a u → AVRel φ b v → (f a b).holds Q Qp → Val P φ w Q (g u v)) (l : List AV) : ∀ (zs : List Value) (_ : AVsRel φ l zs) (a : AV) (u : Value) (_ : AVRel φ a u) (Q : AV → Prop) (_ : (fold2 f l a).holds Q Qp),
    Val P φ w Q (zs.foldlM g u) := by
  induction l with
  | nil => intro zs hz a u hu Q h; cases hz; exact ⟨u, a, rfl, h, hu⟩
  | cons x l ih =>
    intro zs hz a u hu Q h
    cases hz with
    | cons hx ht =>
      have h' : ((f a x).bind (fold2 f l)).holds Q Qp := h
      rw [T.holds_bind] at h'
      obtain ⟨z, y, h1, h2, h3⟩ := hf _ _ _ _ _ hu hx h'
      obtain ⟨z', y', h4, h5, h6⟩ := ih _ ht y z h3 Q h2
      exact ⟨z', y', by simp [List.foldlM, h1, h4], h5, h6⟩
theorem minI_ok {P : Program} {φ : Phi} {w : World} {Qp : AV → Mem → Prop} (a b : AV) (u v : Value) (Q : AV → Prop) (hu : AVRel φ a u) (hv : AVRel φ b v) (h : (minI a b).holds Q Qp) : Val P φ w Q (Builtin.min2 u v) := by
  obtain ⟨k, x, rfl, h⟩ := onI_ok h
  obtain ⟨k', y, rfl, h⟩ := onI_ok (show (onI b fun _ y => .ret (.i k (if y < x then y else x))).holds Q Qp from h)
  cases hu; cases hv
  exact ⟨_, _, rfl, h, .i _ _⟩
theorem maxI_ok {P : Program} {φ : Phi} {w : World} {Qp : AV → Mem → Prop} (a b : AV) (u v : Value) (Q : AV → Prop) (hu : AVRel φ a u) (hv : AVRel φ b v) (h : (maxI a b).holds Q Qp) : Val P φ w Q (Builtin.max2 u v) := by
  obtain ⟨k, x, rfl, h⟩ := onI_ok h
  obtain ⟨k', y, rfl, h⟩ := onI_ok (show (onI b fun _ y => .ret (.i k (if y > x then y else x))).holds Q Qp from h)
  cases hu; cases hv
  exact ⟨_, _, rfl, h, .i _ _⟩
theorem hd?_ok {α β : Type} {l : List α} {f : α → T β} {Q : β → Prop} {Qp : AV → Mem → Prop} (h : (hd? l f).holds Q Qp) : ∃ x r, l = x :: r ∧ (f x).holds Q Qp := by
  cases l with
  | nil => exact h.elim
  | cons x r => exact ⟨x, r, rfl, h⟩
theorem ex2_ok {α β : Type} {l : List α} {f : α → α → T β} {Q : β → Prop} {Qp : AV → Mem → Prop} (h : (ex2 l f).holds Q Qp) : ∃ x y, l = [x, y] ∧ (f x y).holds Q Qp := by
  match l, h with
  | [], h => exact h.elim
  | [_], h => exact h.elim
  | [x, y], h => exact ⟨x, y, rfl, h⟩
  | _ :: _ :: _ :: _, h => exact h.elim
theorem foldA_ok {P : Program} {φ : Phi} {M : Mem} {w : World} {f : AV → AV → T AV} {g : Value → Value → Sem Value} {Q : AV × Mem → Prop} {Qp : AV → Mem → Prop}
    (hf : ∀ a b u v (Q : AV → Prop), AVRel φ a u → AVRel φ b v → (f a b).holds Q Qp → Val P φ w Q (g u v)) {l : List AV} {zs : List Value} (hz : AVsRel φ l zs) (h : (foldA f M l).holds Q Qp) :
    ∃ z zs', zs = z :: zs' ∧ Val P φ w (fun x => Q (x, M)) (zs'.foldlM g z) := by
  cases hz with
  | nil => exact h.elim
  | cons hx ht =>
    have h' : ((fold2 f _ _).bind fun v => .ret (v, M)).holds Q Qp := h
    rw [T.holds_bind] at h'
    exact ⟨_, _, rfl, fold2_ok hf _ _ ht _ _ hx _ h'⟩

/-- The functions that are called: what the tree tells is what the machine does. -/
def CallsOk (P : Program) (N : NB) (callF : FuncId → List AV → Mem → T (AV × Mem)) : Prop :=
  ∀ f args M Q Qp, (callF f args M).holds Q Qp → ((∃ fn c, P.funcs[f]? = some fn ∧ fn.body = some c ∧ (fn.name == "runtime.NumGoroutine") = false) ∧
    ∀ φ w zs, Rep N φ M w → AVsRel φ args zs → Calls P f zs.toArray w fun e w' => (∃ v, e = .returned v ∧ Good N φ M w Q v w') ∨ (∃ v, e = .panicked [{ v, recovered := false }] ∧ GoodP N φ M w Qp v w')) ∨
  (∀ φ w zs, Rep N φ M w → AVsRel φ args zs → ∃ v w', (callFunc f zs.toArray).run P w = .ok (.value v) w' ∧ Good N φ M w Q v w')

theorem builtinA_ok {P : Program} {tt : TT} (tok : TTok P tt) {N : NB} {φ : Phi} {M : Mem} {w : World} (hr : Rep N φ M w) {b : Builtin} {ts : List TypeId} {ty : TypeId} {cs : Array Bool} {l : List AV} {zs : List Value} (hz : AVsRel φ l zs)
    {Q : AV × Mem → Prop} {Qp : AV → Mem → Prop} (h : (builtinA tt M b ts l).holds Q Qp) : Out P N φ M w Q Qp (builtin b ts.toArray ty cs zs.toArray) := by
  cases b with
  | len =>
    obtain ⟨t, ts', rfl, h⟩ := hd?_ok (show (hd? ts fun t => hd? l fun x => onK (tt t).u ((lenA (tt t).u x).bind fun v => .ret (v, M)) ((lenA (tt t).u x).bind fun v => .ret (v, M))).holds Q Qp from h)
    obtain ⟨x, l', rfl, h⟩ := hd?_ok h
    obtain ⟨hb, h⟩ := onK_both h
    rw [T.holds_bind] at h
    cases hz with
    | cons hx ht => exact Out.ofVal hr (lenA_ok tok hb hx h ts' _)
  | min =>
    obtain ⟨z, zs', rfl, hv⟩ := foldA_ok (P := P) (g := Builtin.min2) (fun a b u v Q hu hv h => minI_ok a b u v Q hu hv h) hz (show (foldA minI M l).holds Q Qp from h)
    exact Out.ofVal hr (by simpa [Builtin.min_] using hv)
  | max =>
    obtain ⟨z, zs', rfl, hv⟩ := foldA_ok (P := P) (g := Builtin.max2) (fun a b u v Q hu hv h => maxI_ok a b u v Q hu hv h) hz (show (foldA maxI M l).holds Q Qp from h)
    exact Out.ofVal hr (by simpa [Builtin.max_] using hv)
  | append =>
    obtain ⟨s, x, rfl, h⟩ := ex2_ok (show (ex2 l fun s x => ex2 ts fun t tx => evAppend tt M t tx s x).holds Q Qp from h)
    obtain ⟨t, tx, rfl, h⟩ := ex2_ok h
    cases hz with
    | cons hs hz =>
      cases hz with
      | cons hx hz =>
        cases hz
        obtain ⟨z, w', h1, h2⟩ := evAppend_ok (P := P) tok hr (ty := ty) hs hx h
        exact Out.val h1 h2
  | clear =>
    obtain ⟨t, ts', rfl, h⟩ := hd?_ok (show (hd? ts fun t => hd? l fun x => evClear tt M t x).holds Q Qp from h)
    obtain ⟨x, l', rfl, h⟩ := hd?_ok h
    cases hz with
    | cons hx ht =>
      obtain ⟨z, w', h1, h2⟩ := evClear_ok (P := P) (t := t) (ts' := List.toArray (t :: ts')) (zs' := List.toArray (_ :: _)) tok hr (ty := ty) hx rfl rfl h
      exact Out.val h1 h2
  | copy =>
    obtain ⟨s, x, rfl, h⟩ := ex2_ok (show (ex2 l fun s x => ex2 ts fun t tx => evCopy tt M t tx s x).holds Q Qp from h)
    obtain ⟨t, tx, rfl, h⟩ := ex2_ok h
    cases hz with
    | cons hs hz =>
      cases hz with
      | cons hx hz =>
        cases hz
        obtain ⟨z, w', h1, h2⟩ := evCopy_ok (P := P) tok hr (ty := ty) hs hx h
        exact Out.val h1 h2
  | _ => exact h.elim

theorem args_rel {φ : Phi} {st : Tmps} {a : Act} (h : TmpsRel φ st a.tmps) (xs : Array Operand) : AVsRel φ (xs.toList.map (evA st)) (xs.map a.eval).toList := by
  rw [Array.toList_map]
  exact AVsRel.map _ _ _ fun x _ => evA_rel h x

theorem evCall_ok {P : Program} {tt : TT} (tok : TTok P tt) {N : NB} {callF : FuncId → List AV → Mem → T (AV × Mem)} (hc : CallsOk P N callF) {φ : Phi} {M : Mem} {w : World} (hr : Rep N φ M w) {st : Tmps} {a : Act} (hst : TmpsRel φ st a.tmps)
    {c : Call} {ty : TypeId} {Q : AV × Mem → Prop} {Qp : AV → Mem → Prop} (h : (evCall tt callF M st c).holds Q Qp) : Out P N φ M w Q Qp (do let d ← resolve a.eval c ty; invoke d.target d.args) := by
  have hargs := args_rel hst c.args
  unfold evCall at h
  cases hcl : c.callee with
  | builtin b =>
    rw [hcl] at h
    have := builtinA_ok (P := P) tok hr (ty := ty) (cs := c.args.map fun | .const _ => true | _ => false) hargs (show (builtinA tt M b c.argTypes.toList (c.args.toList.map (evA st))).holds Q Qp from h)
    rw [Array.toArray_toList, Array.toArray_toList] at this
    have e : resolve a.eval c ty = pure { target := .builtin b c.argTypes ty (c.args.map fun | .const _ => true | _ => false), args := c.args.map a.eval } := by
      unfold resolve; rw [hcl]; rfl
    rw [e]
    exact this
  | invoke r n => rw [hcl] at h; exact h.elim
  | value f =>
    rw [hcl] at h
    obtain ⟨fn, caps, hf, h⟩ := onFn_ok (show (onFn (evA st f) (callA callF M (c.args.toList.map (evA st)))).holds Q Qp from h)
    have hv := evA_rel hst f
    rw [hf] at hv
    generalize hgv : a.eval f = fv at hv
    cases hv with
    | fn _ _ ca hca =>
      cases fn with
      | func g =>
        have h : (callF g (c.args.toList.map (evA st) ++ caps) M).holds Q Qp := h
        have hrel := hargs.append hca
        rcases hc g _ M Q Qp h with ⟨⟨fn, body, hfn, hbody, hname⟩, hcalls⟩ | hext
        · refine .inr (.inr ⟨g, c.args.map a.eval ++ ca, w, ?_, ?_⟩)
          · have hname' : ¬ fn.name = "runtime.NumGoroutine" := by simpa using hname
            simp [resolve, hcl, hgv, Deferred.ofValue, invoke, callFunc, program, Sem.run, hfn, hbody, hname']
          · have := hcalls φ w _ hr hrel
            rwa [show ((c.args.map a.eval).toList ++ ca.toList).toArray = c.args.map a.eval ++ ca by simp] at this
        · obtain ⟨v, w', hrun, hg⟩ := hext φ w _ hr hrel
          rw [show ((c.args.map a.eval).toList ++ ca.toList).toArray = c.args.map a.eval ++ ca by simp] at hrun
          refine .inl ⟨v, w', .inl ?_, hg⟩
          simp [resolve, hcl, hgv, Deferred.ofValue, invoke, hrun]
      | _ => exact h.elim
end Go.Eng

set_option autoImplicit false
namespace Go.Eng
open Go Go.RowKit

/-! ## Maps of plain keys and values -/
theorem onMp_ok {β : Type} {x : AV} {f : Nat → T β} {Q : β → Prop} {Qp : AV → Mem → Prop} (h : (onMp x f).holds Q Qp) : ∃ id, x = .mp id ∧ (f id).holds Q Qp := by
  cases x <;> first | exact ⟨_, rfl, h⟩ | exact h.elim
theorem onMapO_ok {β : Type} {o : AObj} {f : List MapEntry → Nat → T β} {Q : β → Prop} {Qp : AV → Mem → Prop} (h : (onMapO o f).holds Q Qp) : ∃ es cl, o = .map es cl ∧ (f es cl).holds Q Qp := by
  cases o <;> first | exact ⟨_, _, rfl, h⟩ | exact h.elim
theorem plainL_ok {φ : Phi} : ∀ (l : List AV) {zs : List Value} {vs : List Value}, AVsRel φ l zs → plainL l = some vs → zs = vs := by
  intro l
  induction l with
  | nil => intro zs vs h e; cases h; cases e; rfl
  | cons x l ih =>
    intro zs vs h e
    cases h with
    | cons h t =>
      have e : (@Option.rec (List Value) (fun _ => Option (List Value)) none (fun r => @AV.casesOn (fun _ => Option (List Value)) x (fun k n => some (.int k n :: r)) (fun b => some (.bool b :: r)) (fun s => some (.string s :: r)) (fun v => some (v :: r))
    (fun _ _ _ => none) (fun _ _ _ _ => none) none (fun _ => none) (fun _ _ => none) (fun _ _ => none) (fun _ => none) (fun _ => none) none) (plainL l)) = some vs := e
      cases hp : plainL l with
      | none => rw [hp] at e; cases e
      | some r =>
        rw [hp] at e
        have := ih t hp
        subst this
        cases h <;> first | (cases e; rfl) | (cases e; done)
theorem plainV_ok {φ : Phi} {x : AV} {z v : Value} (h : AVRel φ x z) (e : plainV x = some v) : z = v := by
  cases h <;> first | (cases e; rfl) | (cases e; done) | skip
  rename_i l a hl
  have e : (@Option.rec (List Value) (fun _ => Option Value) none (fun vs => some (.agg vs.toArray)) (plainL l)) = some v := e
  cases hp : plainL l with
  | none => rw [hp] at e; cases e
  | some r =>
    rw [hp] at e
    cases e
    have := plainL_ok l hl hp
    rw [← this]
theorem liftT_rel (φ : Phi) (v : Value) : AVRel φ (liftT v) v := by
  cases v
  case tuple cs =>
    refine .tup _ _ ?_
    have := AVsRel.map (φ := φ) cs.toList lift id fun x _ => lift_rel φ x
    simpa using this
  all_goals (unfold liftT; exact lift_rel φ _)

theorem isNone'_ok {α β : Type} {x : Option α} {t : T β} {Q : β → Prop} {Qp : AV → Mem → Prop} (h : (isNone' x t).holds Q Qp) : x = none ∧ t.holds Q Qp := by
  cases x with
  | none => exact ⟨rfl, h⟩
  | some => exact h.elim

theorem mp_obj {N : NB} {φ : Phi} {M : Mem} {w : World} (hr : Rep N φ M w) {id : Nat} {es : List MapEntry} {cl : Nat} (ho : M.get id = .map es cl) {z : Value} (hz : AVRel φ (.mp id) z) :
    ∃ p, φ id = some (some p) ∧ (p.o = 0 ∧ p.spot = none) ∧ w.heap[p.b]? = some (.map es.toArray cl) ∧ z = .map (some p.b) := by
  have h := hr.objs id
  rw [ho] at h
  obtain ⟨p, hp, h0, h1⟩ := h
  cases hz with
  | mp _ q hq => rw [hp] at hq; cases hq; exact ⟨p, hp, h0, h1, rfl⟩

theorem heap_set0 {w : World} {r : Nat} {o o' : Obj} (hb : w.heap[r]? = some o) : (w.heap.setIfInBounds r o')[r]? = some o' ∧ ∀ r', r' ≠ r → (w.heap.setIfInBounds r o')[r']? = w.heap[r']? := by
  have hlt : r < w.heap.size := (Array.getElem?_eq_some_iff.1 hb).1
  exact ⟨by simp [hlt], fun r' hne => by simp [Ne.symm hne]⟩
/-- An object in its own block is changed. -/
theorem Rep.reset {N : NB} {φ : Phi} {M : Mem} {w w' : World} (h : Rep N φ M w) {id : Nat} {p : Pl} (ho : isOwn (M.get id)) (hp : φ id = some (some p)) (hl : M.lock ≤ id) (o : AObj) (_ : isOwn o)
    (hs : w'.heap.size = w.heap.size) (hos : w'.os = w.os) (htp : w'.tape = w.tape) (hout : w'.output = w.output) (hk : ∀ b, b ≠ p.b → w'.heap[b]? = w.heap[b]?)
    (hob : ObjRel N φ w' id o) :
    Rep N φ (M.set id o) w' ∧ Ext φ M w φ (M.set id o) w' := by
  have own : ∀ j, isOwn ((M.set id o).get j) → isOwn (M.get j) := by
    intro j hj
    simp only [Mem.get_set] at hj
    split at hj
    · rename_i e; subst e; exact ho
    · exact hj
  have hN := h.high id p ho hp
  refine ⟨⟨fun j => ?_, fun j j' q q' h1 h2 h3 h4 e => h.sep j j' q q' (own j h1) (own j' h2) h3 h4 e, fun j q h1 h2 => h.high j q (own j h1) h2, fun j hj => ?_, by rw [hs]; exact h.size⟩,
    ⟨.refl _, fun _ _ => rfl, Nat.le_refl _, rfl, hos, htp, hout, by rw [hs]; exact Nat.le_refl _, fun b hb hno => hk b fun e => hno id p hl ho hp e.symm, fun j q h1 h2 h3 => ⟨j, q, own j h1, h2, rfl, fun h => h⟩⟩⟩
  · simp only [Mem.get_set]
    split
    · rename_i e; subst e; exact hob
    · rename_i hne
      refine (h.objs j).step (.refl _) (fun b hb => hk b (by omega)) (fun h1 q h2 => hk q.b fun e => hne ?_)
      exact h.sep j id q p h1 ho h2 hp e
  · obtain ⟨h1, h2⟩ := h.fresh j hj
    have hne : j ≠ id := by rintro rfl; rw [h1] at ho; exact ho
    simp only [Mem.get_set, if_neg hne]
    exact ⟨h1, h2⟩

theorem evMakeMap_ok {P : Program} {N : NB} {φ : Phi} {M : Mem} {w : World} (hr : Rep N φ M w) {t : TypeId} {r : Option Operand} {ρ : Operand → Value} {Q : AV × Mem → Prop} {Qp : AV → Mem → Prop} (h : (evMakeMap M r).holds Q Qp) :
    ∃ z w', (Instr.makeMap t (r.map ρ)).run P w = .ok z w' ∧ Good N φ M w Q z w' := by
  cases r with
  | some x => exact h.elim
  | none =>
    have hq : Q (.mp M.next, M.new (.map [] 0)) := h
    refine ⟨_, _, run_makeMap t w, ?_⟩
    obtain ⟨h1, h2⟩ := hr.newOwn (.map [] 0) (.map #[] 0) ⟨w.heap.size, 0, 1, 0, none⟩ rfl ⟨⟨w.heap.size, 0, 1, 0, none⟩, by simp [updP], ⟨rfl, rfl⟩, alloc_new w _⟩
    exact ⟨_, _, _, hq, .mp _ ⟨w.heap.size, 0, 1, 0, none⟩ (by simp [updP]), h1, h2⟩

theorem evLookup_ok {P : Program} {N : NB} {φ : Phi} {M : Mem} {w : World} (hr : Rep N φ M w) {t : TypeId} {x ix : AV} {y iy : Value} (hx : AVRel φ x y) (hi : AVRel φ ix iy) {ck : Bool} {Q : AV × Mem → Prop} {Qp : AV → Mem → Prop} (h : (evLookup P M t x ix ck).holds Q Qp) :
    ∃ z, (Instr.lookup t y iy ck).run P w = .ok z w ∧ Good N φ M w Q z w := by
  obtain ⟨id, rfl, h⟩ := onMp_ok h
  obtain ⟨es, cl, ho, h⟩ := onMapO_ok h
  obtain ⟨kv, hkv, h⟩ := onO_ok h
  obtain ⟨v, hv, hq⟩ := onO_ok h
  have hq : Q (liftT v, M) := hq
  obtain ⟨p, hp, h0, hb, rfl⟩ := mp_obj hr ho hx
  obtain rfl := plainV_ok hi hkv
  refine ⟨v, ?_, .here hr hq (liftT_rel φ v)⟩
  have hrun := pureOf_run hv w
  rw [← hrun]
  unfold lookupG at hrun ⊢
  unfold Instr.lookup
  cases hu : P.underlying t with
  | none => simp [underlying, hu, stuck] at hrun
  | some d =>
    cases d <;> simp [run_underlying hu, stuck] at hrun
    have hget : (getObj p.b).run P w = .ok (.map es.toArray cl) w := by simp [getObj, Sem.run, hb]
    simp [run_underlying hu, hget, Sem.run_bind]
    rfl

theorem evAssert_ok {P : Program} {N : NB} {φ : Phi} {M : Mem} {w : World} (hr : Rep N φ M w) {x : AV} {y : Value} (hx : AVRel φ x y) {t a : TypeId} {ck : Bool} {Q : AV × Mem → Prop} {Qp : AV → Mem → Prop} (h : (evAssert P M x t a ck).holds Q Qp) :
    ∃ z, (Instr.typeAssert y t a ck).run P w = .ok z w ∧ Good N φ M w Q z w := by
  obtain ⟨v, rfl, h⟩ := onV_ok h
  obtain ⟨r, hr0, hq⟩ := onO_ok h
  have hq : Q (liftT r, M) := hq
  cases hx with
  | v => exact ⟨r, pureOf_run hr0 w, .here hr hq (liftT_rel φ r)⟩

theorem evMapUpd_ok {P : Program} {N : NB} {φ : Phi} {M : Mem} {w : World} (hr : Rep N φ M w) {t : TypeId} {x k v : AV} {y ky vy : Value} (hx : AVRel φ x y) (hk : AVRel φ k ky) (hv : AVRel φ v vy) {Q : AV × Mem → Prop} {Qp : AV → Mem → Prop} (h : (evMapUpd P M t x k v).holds Q Qp) :
    ∃ w', (Instr.mapUpdate t y ky vy).run P w = .ok () w' ∧ Good N φ M w Q undef w' := by
  obtain ⟨id, rfl, h⟩ := onMp_ok h
  obtain ⟨es, cl, ho, h⟩ := onMapO_ok h
  obtain ⟨hl, h⟩ := br_ok h
  obtain ⟨kv, hkv, h⟩ := onO_ok h
  obtain ⟨vv, hvv, h⟩ := onO_ok h
  obtain ⟨r, hr0, h⟩ := onO_ok h
  obtain ⟨rfl, hq⟩ := isNone'_ok h
  have hq : Q (.v undef, M.set id (.map (es ++ [⟨kv, vv, cl⟩]) (cl + 1))) := hq
  obtain ⟨p, hp, h0, hb, rfl⟩ := mp_obj hr ho hx
  obtain rfl := plainV_ok hk hkv
  obtain rfl := plainV_ok hv hvv
  have hrun := pureOf_run hr0 w
  unfold updG at hrun
  have hrun2 : (Instr.mapUpdate t (.map (some p.b)) ky vy).run P w = .ok () { w with heap := w.heap.setIfInBounds p.b (.map (es.toArray.push ⟨ky, vy, cl⟩) (cl + 1)) } := by
    unfold Instr.mapUpdate
    cases hu : P.underlying t with
    | none => simp [underlying, hu, stuck] at hrun
    | some d =>
      cases d <;> simp [run_underlying hu, stuck] at hrun
      have hget : (getObj p.b).run P w = .ok (.map es.toArray cl) w := by simp [getObj, Sem.run, hb]
      simp only [Sem.run_bind, run_underlying hu, hget, Result.andThen_ok]
      rename_i kt et
      cases h1 : (Instr.checkKey false 10000 kt ky).run P w with
      | ok u w1 =>
        rw [h1] at hrun
        simp only [Result.andThen_ok] at hrun
        simp only [Result.andThen_ok, hrun]
        simp [setObj, Sem.run, hb]
      | _ => rw [h1] at hrun; simp [Result.andThen] at hrun
  have hown : isOwn (M.get id) := by rw [ho]; trivial
  obtain ⟨hs1, hs2⟩ := heap_set0 (o' := .map (es.toArray.push ⟨ky, vy, cl⟩) (cl + 1)) hb
  obtain ⟨h1, h2⟩ := hr.reset (w' := { w with heap := w.heap.setIfInBounds p.b (.map (es.toArray.push ⟨ky, vy, cl⟩) (cl + 1)) }) hown hp (Nat.le_of_ble_eq_true hl) (.map (es ++ [⟨ky, vy, cl⟩]) (cl + 1)) trivial (by simp) rfl rfl rfl hs2 ⟨p, hp, h0, by rw [hs1]; simp⟩
  exact ⟨_, hrun2, φ, _, _, hq, .v _, h1, h2⟩
end Go.Eng

set_option autoImplicit false
namespace Go.Eng
open Go Go.RowKit

theorem zero_rel {φ : Phi} (zs : List Value) : AVsRel φ (zs.map lift1) zs := by
  have := AVsRel.map (φ := φ) zs lift1 id fun x _ => lift1_rel φ x
  simpa using this

theorem evOp_ok {P : Program} {K : Ctx} (hP : K.P = P) (tok : TTok P K.tt) {N : NB} (hc : CallsOk P N K.callF) {φ : Phi} {w : World} (hr : Rep N φ K.M w) {a : Act} (hst : TmpsRel φ K.st a.tmps)
    (o : Oper) {Q : AV × Mem → Prop} {Qp : AV → Mem → Prop} (h : (evOp K o.op).holds Q Qp) (hsrc : ∀ s d x, o.op = .convert s d x → ∃ e, P.underlying s = some e) : Out P N φ K.M w Q Qp (execOp a.eval o) := by
  obtain ⟨P', tt, callF, M, st⟩ := K
  simp only at hP tok hc hr hst
  subst hP
  unfold execOp
  cases ho : o.op with
  | move x => rw [ho] at h; exact .inl ⟨_, w, .inl rfl, .here hr h (evA_rel hst x)⟩
  | assign x => rw [ho] at h; exact .inl ⟨_, w, .inl rfl, .here hr h (evA_rel hst x)⟩
  | pick c x y =>
    rw [ho] at h
    obtain ⟨b, hb, h⟩ := onB_ok (show (onB (evA st c) fun t => .br t (.ret (evA st x, M)) (.ret (evA st y, M))).holds Q Qp from h)
    have hv := evA_rel hst c
    rw [hb] at hv
    generalize hgv : a.eval c = cv at hv
    cases hv
    obtain ⟨h1, h2⟩ := h
    cases b with
    | true => exact .inl ⟨a.eval x, w, .inl (by simp [hgv, asBool]), .here hr (h1 rfl) (evA_rel hst x)⟩
    | false => exact .inl ⟨a.eval y, w, .inl (by simp [hgv, asBool]), .here hr (h2 rfl) (evA_rel hst y)⟩
  | alloc e =>
    rw [ho] at h
    have h : (evAlloc tt M e).holds Q Qp := h
    by_cases hb : (tt e).u = .bad
    · unfold evAlloc at h; rw [hb] at h; exact h.elim
    obtain ⟨i, z, hi, hs, _, hz, hzz, _⟩ := (tok e hb).info
    have hrel : AVsRel φ (tt e).zero z.cells.toList := by rw [← hzz]; exact zero_rel _
    obtain ⟨_, v, w', hrun, hg⟩ := evAlloc_ok (P := P') hr hrel h
    exact .val (by simpa [Instr.alloc, zeroValue, typeInfo, hi, hz, newVar] using hrun) hg
  | box e x =>
    rw [ho] at h
    have h : (newOwn M e (evA st x).cells.length (evA st x).cells).holds Q Qp := h
    have hv := evA_rel hst x
    have hl : allLeaf (evA st x).cells = true := (Bool.and_eq_true_iff.1 (br_ok h).1).1
    have hrel := hv.cells (by intro e; rw [e] at hl; cases hl) (by
      intro y e; rw [e] at hl
      have := allLeaf_ok hl (.v y) (by simp [AV.cells])
      exact this)
    obtain ⟨v, w', hrun, hg⟩ := newOwn_ok (P := P') hr hrel h
    exact .val (by simpa [Instr.box, newVar] using hrun) hg
  | build t ps =>
    rw [ho] at h
    obtain ⟨z, hrun, hg⟩ := evBuild_ok tok hr hst (show (evBuild tt (tt t) M st ps.toList).holds Q Qp from h)
    exact .val hrun hg
  | makeFunc f xs ys =>
    rw [ho] at h
    have h : (mkFn M f xs.toList (ys.toList.map (evA st))).holds Q Qp := h
    cases hx : xs.toList with
    | cons b l => rw [hx] at h; exact h.elim
    | nil =>
      rw [hx] at h
      have hq : Q (.fn f (ys.toList.map (evA st)), M) := h
      have hx : xs = #[] := by simpa using hx
      subst hx
      refine .val (s := Instr.makeFunc f (#[].map a.eval) (ys.map a.eval)) (z := .func f #[] (ys.map a.eval)) (w' := w) (by simp [Instr.makeFunc]) (.here hr hq (.fn _ _ _ (args_rel hst ys)))
  | makeSlice t x y =>
    rw [ho] at h
    obtain ⟨z, w', hrun, hg⟩ := evMakeSlice_ok tok hr (evA_rel hst x) (evA_rel hst y) (show (evMakeSlice tt (tt t).u M (evA st x) (evA st y)).holds Q Qp from h)
    exact .val hrun hg
  | buildSlice t n ps =>
    rw [ho] at h
    obtain ⟨z, w', hrun, hg⟩ := evBuildSlice_ok tok hr hst (show (evBuildSlice tt (tt t).u M st n ps.toList).holds Q Qp from h)
    exact .val hrun hg
  | slice t x lo hi mx =>
    rw [ho] at h
    obtain ⟨z, hrun, hg⟩ := evSlice_ok tok hr hst (show (evSlice tt (tt t).u M st (evA st x) lo hi mx).holds Q Qp from h)
    exact .val hrun hg
  | load t x =>
    rw [ho] at h
    obtain ⟨z, hrun, hg⟩ := evLoad_ok tok hr (evA_rel hst x) (show (evLoad (tt t) M (evA st x)).holds Q Qp from h)
    exact .val hrun hg
  | store t x y =>
    rw [ho] at h
    obtain ⟨id, r, c, hx, h⟩ := onPtr_ok (show (evStore (tt t) M (evA st x) (evA st y)).holds Q Qp from h)
    obtain ⟨hb, h⟩ := onK_both h
    obtain ⟨hn, h⟩ := br_ok h
    rw [T.holds_bind] at h
    have hv := evA_rel hst x
    rw [hx] at hv
    generalize hgv : a.eval x = xv at hv
    have hy := evA_rel hst y
    cases hv with
    | ptr _ _ _ p hp hps =>
      have hlen : (evA st y).cells.length = (tt t).size := Nat.eq_of_beq_eq_true hn
      by_cases htop : evA st y = .top ∨ ∃ v, evA st y = .v v ∧ leafV v = false
      · -- a cell that is no leaf is not stored
        exfalso
        have key : ∀ x, leafA x = false → ∀ l c M, (storeCells id r (x :: l) M c).holds (fun M => Q (.v undef, M)) Qp → False := by
          intro x hx l c M h
          have h' : ((storeCell M id r c x).bind fun M => storeCells id r l M (c + 1)).holds (fun M => Q (.v undef, M)) Qp := h
          rw [T.holds_bind] at h'
          unfold storeCell at h'
          cases hg : M.get id with
          | own e rs cells =>
            rw [hg] at h'
            have := (ck_ok (ck_ok h').2).1
            rw [hx] at this; cases this
          | vec e n cols =>
            rw [hg] at h'
            obtain ⟨_, h'⟩ := br_ok (ck_ok (show (T.ck (Nat.ble M.lock id) (T.br (Nat.blt r n) (onO (nth? cols c) fun col => onO (colSet r col x) fun col' => (.ret (M.set id (.vec e n (cols.set c col'))) : T Mem)) .fail)).holds _ Qp from h')).2
            obtain ⟨col, _, h'⟩ := onO_ok h'
            obtain ⟨col', h2, _⟩ := onO_ok h'
            rw [(colSet_ok h2).1] at hx; cases hx
          | _ => rw [hg] at h'; exact h'.elim
        rcases htop with e | ⟨v, e, hv⟩
        · rw [e] at h; exact key .top rfl [] _ _ h
        · rw [e] at h; exact key (.v v) hv [] _ _ h
      · have hrel := hy.cells (fun e => htop (.inl e)) (fun v e => by
          cases hl : leafV v with
          | true => rfl
          | false => exact (htop (.inr ⟨v, e, hl⟩)).elim)
        obtain ⟨w', M', hrun, hq, hr', he⟩ := storeCells_ok (P := P') hp hps _ hrel 0 hr h
        refine .inl ⟨undef, w', .inr ⟨?_, rfl⟩, φ, .v undef, M', hq, .v _, hr', he⟩
        have hsz : (a.eval y).cells.size = (tt t).size := by rw [← hlen, hrel.length, Array.length_toList]
        simp [Instr.storeAt, Instr.sureAddr, hgv, storeVar, run_sizeOf' (tok t hb), hsz, hrun]
  | nilCheck x =>
    rw [ho] at h
    obtain ⟨id, r, c, hx, h⟩ := onPtr_ok (show (onPtr (evA st x) fun id r c => .ret (.ptr id r c, M)).holds Q Qp from h)
    have hv := evA_rel hst x
    rw [hx] at hv
    generalize hgv : a.eval x = xv at hv
    cases hv with
    | ptr _ _ _ p hp hps => exact .inl ⟨_, w, .inl (by simp only [hgv]; rfl), .here hr h (.ptr _ _ _ _ hp hps)⟩
  | binOp op t x y yt =>
    rw [ho] at h
    obtain ⟨hb, h⟩ := onK_both (show (onK (tt t).u (evBin P' tt M op t x y (evA st x) (evA st y)) (evBin P' tt M op t x y (evA st x) (evA st y))).holds Q Qp from h)
    obtain ⟨z, hrun, hg⟩ := evBin_ok tok hr hb (x := x) (y := y) (evA_rel hst x) (evA_rel hst y) h
    exact .val hrun hg
  | unOp op t x =>
    rw [ho] at h
    exact .ofVal hr (unA_ok (evA_rel hst x) (retM_ok (show (retM M (unA P' op (evA st x))).holds Q Qp from h)))
  | convert s d x =>
    rw [ho] at h
    rcases onK_ok (show (onK (tt d).u .fail (evConv P' tt M s d (evA st x))).holds Q Qp from h) with ⟨_, _, h⟩ | ⟨hb, _, h⟩
    · exact h.elim
    · obtain ⟨z, w', hrun, hg⟩ := evConv_ok tok hr hb (hsrc s d x ho) (evA_rel hst x) h
      exact .val hrun hg
  | fieldAddr t x f =>
    rw [ho] at h
    obtain ⟨z, hrun, hg⟩ := evFieldAddr_ok tok hr (evA_rel hst x) (show (evFieldAddr (tt t).u M (evA st x) f).holds Q Qp from h)
    exact .val hrun hg
  | field t x f =>
    rw [ho] at h
    obtain ⟨z, hrun, hg⟩ := evField_ok tok hr (evA_rel hst x) (show (evField tt (tt t).u M (evA st x) f).holds Q Qp from h)
    exact .val hrun hg
  | indexAddr t x ix =>
    rw [ho] at h
    obtain ⟨z, hrun, hg⟩ := evIndexAddr_ok tok hr (evA_rel hst x) (evA_rel hst ix) (show (evIndexAddr tt (tt t).u M (evA st x) (evA st ix)).holds Q Qp from h)
    exact .val hrun hg
  | index t x ix =>
    rw [ho] at h
    obtain ⟨z, hrun, hg⟩ := evIndex_ok tok hr (evA_rel hst x) (evA_rel hst ix) (show (evIndex tt (tt t).u M (evA st x) (evA st ix)).holds Q Qp from h)
    exact .val hrun hg
  | extract t ix =>
    rw [ho] at h
    obtain ⟨l, hl, h⟩ := onTup_ok (show (onTup (evA st t) fun l => (sel l ix).bind fun v => .ret (v, M)).holds Q Qp from h)
    rw [T.holds_bind] at h
    obtain ⟨v, hv, hq⟩ := sel_ok h
    have ht := evA_rel hst t
    rw [hl] at ht
    generalize hgv : a.eval t = tv at ht
    cases ht with
    | tup _ vs hrel =>
      obtain ⟨z, hz, hzr⟩ := hrel.get _ _ hv
      have hz : vs[ix]? = some z := by simpa using hz
      exact .val (s := Instr.extract (a.eval t) ix) (z := z) (w' := w) (by simp [hgv, Instr.extract, hz]) (.here hr hq hzr)
  | call c => rw [ho] at h; exact evCall_ok tok hc hr hst (show (evCall tt callF M st c).holds Q Qp from h)
  | panic x =>
    rw [ho] at h
    have h : (evPanic M (evA st x)).holds Q Qp := h
    have hv := evA_rel hst x
    generalize hgv : a.eval x = xv at hv
    generalize evA st x = y at h hv
    cases hv with
    | v =>
      obtain ⟨h1, h2⟩ := br_ok (show (T.br (isIface xv) (.pan (.v xv) M) .fail).holds Q Qp from h)
      cases xv <;> first | (cases h1; done) | skip
      refine .inr (.inl ⟨_, w, by simp [hgv, Instr.panic, goPanic, Sem.run], φ, _, M, h2, .v _, hr, .refl _ _ _⟩)
    | ifc t x z hz => exact .inr (.inl ⟨_, w, by simp [hgv, Instr.panic, goPanic, Sem.run], φ, _, M, h, .ifc _ _ _ hz, hr, .refl _ _ _⟩)
    | _ => exact h.elim
  | makeInterface t x =>
    rw [ho] at h
    obtain ⟨hb, hi, h⟩ := onC_ok (show (onC (tt t).u (mkIfc M t (evA st x))).holds Q Qp from h)
    obtain ⟨d, hd, hni⟩ := concrete (tok t hb) hb hi
    have hrun : ∀ z, (Instr.makeInterface t z).run P' w = .ok (.iface t z) w := by
      intro z
      cases d <;> first | (exact absurd rfl (hni _)) | simp [Instr.makeInterface, run_underlying hd]
    have hv := evA_rel hst x
    generalize hgv : a.eval x = xv at hv
    generalize evA st x = y at h hv
    refine Out.val (by rw [hgv]; exact hrun xv) ?_
    cases hv with
    | i k n => exact .here hr h (.v _)
    | b n => exact .here hr h (.v _)
    | s n => exact .here hr h (.v _)
    | v => exact .here hr h (.v _)
    | ptr id r c p hp hps => exact .here hr h (.ifc _ _ _ (.ptr _ _ _ _ hp hps))
    | agg l vs hrel =>
      obtain ⟨us, hus, hq⟩ := onO_ok h
      have : ∀ (l : List AV) (us zs : List Value), plainL l = some us → AVsRel φ l zs → zs = us := by
        intro l
        induction l with
        | nil => intro us zs h hz; cases hz; exact Option.some.inj h
        | cons x l ih =>
          intro us zs h hz
          cases hz with
          | cons hx ht =>
            have h' : (@Option.rec (List Value) (fun _ => Option (List Value)) none (fun r => @AV.casesOn (fun _ => Option (List Value)) x (fun k n => some (.int k n :: r)) (fun b => some (.bool b :: r)) (fun s => some (.string s :: r)) (fun v => some (v :: r))
              (fun _ _ _ => none) (fun _ _ _ _ => none) none (fun _ => none) (fun _ _ => none) (fun _ _ => none) (fun _ => none) (fun _ => none) none) (plainL l)) = some us := h
            cases hp : plainL l with
            | none => rw [hp] at h'; cases h'
            | some r =>
              rw [hp] at h'
              have := ih _ _ hp ht
              subst this
              cases hx <;> first | (cases h'; done) | (exact Option.some.inj h')
      have e := this l us vs.toList hus hrel
      have e : us.toArray = vs := by rw [← e]
      rw [e] at hq
      exact .here hr hq (.v _)
    | _ => exact h.elim
  | makeMap t r =>
    rw [ho] at h
    obtain ⟨z, w', hrun, hg⟩ := evMakeMap_ok (P := P') (t := t) (ρ := a.eval) hr (show (evMakeMap M r).holds Q Qp from h)
    exact .val hrun hg
  | lookup t x ix ck =>
    rw [ho] at h
    obtain ⟨z, hrun, hg⟩ := evLookup_ok hr (evA_rel hst x) (evA_rel hst ix) (show (evLookup P' M t (evA st x) (evA st ix) ck).holds Q Qp from h)
    exact .val hrun hg
  | mapUpdate t m k v =>
    rw [ho] at h
    obtain ⟨w', hrun, hg⟩ := evMapUpd_ok hr (evA_rel hst m) (evA_rel hst k) (evA_rel hst v) (show (evMapUpd P' M t (evA st m) (evA st k) (evA st v)).holds Q Qp from h)
    exact .inl ⟨undef, w', .inr ⟨by simp [hrun], rfl⟩, hg⟩
  | typeAssert x t b ck =>
    rw [ho] at h
    obtain ⟨z, hrun, hg⟩ := evAssert_ok hr (evA_rel hst x) (show (evAssert P' M (evA st x) t b ck).holds Q Qp from h)
    exact .val hrun hg
  | _ => rw [ho] at h; exact h.elim
end Go.Eng

set_option autoImplicit false
namespace Go.Eng
open Go Go.RowKit

structure StOk (N : NB) (n : Nat) (ds : List Deferred) (φ : Phi) (M : Mem) (w : World) (st : Tmps) (a : Act) : Prop where
  rep : Rep N φ M w
  tmps : TmpsRel φ st a.tmps
  size : a.tmps.size = n
  defers : a.defers = ds

/-- What follows a panic. -/
def PanOk (N : NB) (ds : List Deferred) (φ : Phi) (M : Mem) (w : World) (Qp : AV → Mem → Prop) (QX : Exit → Act → World → Prop) : Prop :=
  ∀ v a' w', a'.defers = ds → GoodP N φ M w Qp v w' → QX (.panic [{ v, recovered := false }]) a' w'
theorem PanOk.step {N : NB} {ds : List Deferred} {φ φ' : Phi} {M M' : Mem} {w w' : World} {Qp : AV → Mem → Prop} {QX : Exit → Act → World → Prop} (h : PanOk N ds φ M w Qp QX) (he : Ext φ M w φ' M' w') : PanOk N ds φ' M' w' Qp QX :=
  fun v a' w'' hd ⟨φ2, x, M2, h1, h2, h3, h4⟩ => h v a' w'' hd ⟨φ2, x, M2, h1, h2, h3, he.trans h4⟩

theorem putA_eq (d : Option Tmp) (st : Tmps) (v : AV) (t : Nat) : putA d st v t = match d with | some d => if t = d then v else st t | none => st t := by
  cases d with
  | none => rfl
  | some d =>
    show (@Bool.rec (fun _ => AV) (st t) v (Nat.beq t d)) = _
    simp only
    cases h : Nat.beq t d with
    | true => rw [if_pos (Nat.eq_of_beq_eq_true h)]
    | false => rw [if_neg (Nat.ne_of_beq_eq_false h)]
theorem putA_self {st : Tmps} {d : Tmp} {v : AV} (h : st d = v) : putA (some d) st v = st := by
  funext t
  rw [putA_eq]
  show (if t = d then v else st t) = st t
  split
  · rename_i e; rw [e, h]
  · rfl
theorem setB_self {st : Tmps} {c : Operand} {b : Bool} (h : evA st c = .b b) : setB c b st = st := by
  cases c with
  | tmp t => exact putA_self h
  | _ => rfl
theorem TmpsRel.mono {φ φ' : Phi} (hp : PhiLe φ φ') {st : Tmps} {tmps : Array Value} (h : TmpsRel φ st tmps) : TmpsRel φ' st tmps := fun t => (h t).mono hp
theorem TmpsRel.put {φ : Phi} {st : Tmps} {a : Act} (h : TmpsRel φ st a.tmps) {d : Option Tmp} {x : AV} {v : Value} (hx : AVRel φ x v) (hd : ∀ t, d = some t → t < a.tmps.size) : TmpsRel φ (putA d st x) (a.put d v).tmps := by
  intro t
  rw [putA_eq]
  cases d with
  | none => exact h t
  | some d =>
    simp only [Act.put]
    split
    · rename_i e; subst e
      have hlt := hd t rfl
      simp [hlt, hx]
    · rename_i hne
      have : (a.tmps.setIfInBounds d v).getD t undef = a.tmps.getD t undef := by
        simp only [Array.getD_eq_getD_getElem?, Array.getElem?_setIfInBounds, if_neg (Ne.symm hne)]
      rw [this]; exact h t
theorem put_size (a : Act) (d : Option Tmp) (v : Value) : (a.put d v).tmps.size = a.tmps.size := by cases d <;> simp [Act.put]
theorem put_defers (a : Act) (d : Option Tmp) (v : Value) : (a.put d v).defers = a.defers := by cases d <;> rfl

def OpOk (P : Program) (n : Nat) (o : Oper) : Prop := (∀ d, o.dst = some d → d < n) ∧ ∀ s d x, o.op = .convert s d x → ∃ e, P.underlying s = some e

theorem yielded_rel {φ : Phi} {st : Tmps} {a : Act} (h : TmpsRel φ st a.tmps) {ops : Array Oper} {j d : Nat} {p : Oper} (hp : ops.toList[j]? = some p) (hd : p.dst = some d) (hlt : d < a.tmps.size) :
    (∀ b, st d = .b b → yielded ops a.tmps j = some b) ∧ ((∀ b, st d ≠ .b b) → st d ≠ .top → (∀ b, st d ≠ .v (.bool b)) → yielded ops a.tmps j = none) := by
  have hp' : ops[j]? = some p := by simpa using hp
  have hr := h d
  have hg : a.tmps[d]? = some (a.tmps.getD d undef) := by simp [Array.getD_eq_getD_getElem?, hlt]
  constructor
  · intro b e
    rw [e] at hr
    generalize hz : a.tmps.getD d undef = z at hr hg
    cases hr
    simp [yielded, hp', hd, hg]
  · intro h1 h2 h3
    simp only [yielded, hp', Option.bind_some, hd, hg]
    generalize a.tmps.getD d undef = z at hr
    generalize st d = x at hr h1 h2 h3
    cases hr <;> first | rfl | (exact absurd rfl (h1 _)) | (exact absurd rfl h2) | skip
    cases z <;> first | rfl | exact absurd rfl (h3 _)

theorem evOps_stepA {P : Program} {tt : TT} (tok : TTok P tt) {N : NB} {callF : FuncId → List AV → Mem → T (AV × Mem)} (hc : CallsOk P N callF) {n : Nat} {ds : List Deferred} {ops : Array Oper} (hall : ∀ o ∈ ops.toList, OpOk P n o)
    {o : Oper} {l : List Oper} {st : Tmps} {M : Mem} {φ : Phi} {w : World} {a : Act} {Q : Tmps × Mem → Prop} {Qp : AV → Mem → Prop} {QX : Exit → Act → World → Prop} {K : Act → World → Prop} (h : (evOps P tt callF ops.toList (o :: l) st M).holds Q Qp) (hoo : OpOk P n o)
    (hs : StOk N n ds φ M w st a) (ih : ∀ φ' M' w' st' a', (evOps P tt callF ops.toList l st' M').holds Q Qp → StOk N n ds φ' M' w' st' a' → Ext φ M w φ' M' w' → K a' w') (hp : ∀ v w', GoodP N φ M w Qp v w' → QX (.panic [{ v, recovered := false }]) a w') :
    if Region.wanted o (yielded ops a.tmps) = true then o.wp P a w K QX ∨ (o.asks P a w ∧ LetsOut QX) else K (a.put o.dst undef) w := by
  -- the operation is carried out
  have go : ((evOp ⟨P, tt, callF, M, st⟩ o.op).bind fun x => evOps P tt callF ops.toList l (putA o.dst st x.1) x.2).holds Q Qp → o.wp P a w (K) QX := by
    intro h
    rw [T.holds_bind] at h
    have key : ∀ v w', Good N φ M w (fun x => (evOps P tt callF ops.toList l (putA o.dst st x.1) x.2).holds Q Qp) v w' → K (a.put o.dst v) w' := by
      intro v w' ⟨φ', x, M', hq', hv, hr', he⟩
      exact ih φ' M' w' _ _ hq' ⟨hr', (hs.tmps.mono he.phi).put hv (fun t ht => by rw [hs.size]; exact hoo.1 t ht), (put_size ..).trans hs.size, (put_defers ..).trans hs.defers⟩ he
    have hout := evOp_ok (K := ⟨P, tt, callF, M, st⟩) rfl tok hc hs.rep hs.tmps o h hoo.2
    unfold Oper.wp
    rcases hout with ⟨v, w', hrun, hg⟩ | ⟨v, w', hrun, hg⟩ | ⟨f, args, w', hrun, hcalls⟩
    · rcases hrun with hrun | ⟨hrun, hv⟩
      · rw [hrun]; exact key v w' hg
      · rw [hrun]; subst hv; exact key _ w' hg
    · rw [hrun]; exact hp v w' hg
    · rw [hrun]
      refine Calls.mono hcalls ?_
      intro e w'' he
      rcases he with ⟨v, rfl, hg⟩ | ⟨v, rfl, hg⟩
      · exact key v w'' hg
      · exact hp v w'' hg
  have skip : (evOps P tt callF ops.toList l (putA o.dst st (.v undef)) M).holds Q Qp → K (a.put o.dst undef) w := by
    intro h
    exact ih φ M w _ _ h ⟨hs.rep, hs.tmps.put (.v _) (fun t ht => by rw [hs.size]; exact hoo.1 t ht), (put_size ..).trans hs.size, (put_defers ..).trans hs.defers⟩ (.refl _ _ _)
  have h' : (@Option.rec (Nat × Bool) (fun _ => T (Tmps × Mem)) ((evOp ⟨P, tt, callF, M, st⟩ o.op).bind fun x => evOps P tt callF ops.toList l (putA o.dst st x.1) x.2)
    (guarded ops.toList st M o (evOps P tt callF ops.toList l) fun st => (evOp ⟨P, tt, callF, M, st⟩ o.op).bind fun x => evOps P tt callF ops.toList l (putA o.dst st x.1) x.2) o.guard).holds Q Qp := h
  cases hg : o.guard with
  | none =>
    rw [hg] at h'
    simp only [Region.wanted, hg, if_true]
    exact .inl (go h')
  | some g =>
    rw [hg] at h'
    obtain ⟨j, want⟩ := g
    have h' : (guarded ops.toList st M o (evOps P tt callF ops.toList l) (fun st => (evOp ⟨P, tt, callF, M, st⟩ o.op).bind fun x => evOps P tt callF ops.toList l (putA o.dst st x.1) x.2) (j, want)).holds Q Qp := h'
    unfold guarded at h'
    rw [nth?_eq] at h'
    cases hpj : ops.toList[j]? with
    | none => simp only [hpj] at h'; exact h'.elim
    | some p =>
      simp only [hpj] at h'
      unfold yB at h'
      have hpok := hall p (List.mem_of_getElem? hpj)
      cases hd : p.dst with
      | none => rw [hd] at h'; exact h'.elim
      | some d =>
        rw [hd] at h'
        have h' : (yC (st d) (fun b => .br (b == want) ((evOp ⟨P, tt, callF, M, putA (some d) st (.b want)⟩ o.op).bind fun x => evOps P tt callF ops.toList l (putA o.dst (putA (some d) st (.b want)) x.1) x.2) (evOps P tt callF ops.toList l (putA o.dst (putA (some d) st (.b (!want))) (.v undef)) M)) (evOps P tt callF ops.toList l (putA o.dst st (.v undef)) M)).holds Q Qp := h'
        have hlt : d < a.tmps.size := by rw [hs.size]; exact hpok.1 d hd
        obtain ⟨y1, y2⟩ := yielded_rel hs.tmps hpj hd hlt
        have hskip : (∀ b, st d ≠ .b b) → st d ≠ .top → (∀ b, st d ≠ .v (.bool b)) → (evOps P tt callF ops.toList l (putA o.dst st (.v undef)) M).holds Q Qp →
            (if Region.wanted o (yielded ops a.tmps) = true then o.wp P a w (K) QX ∨ (o.asks P a w ∧ LetsOut QX) else K (a.put o.dst undef) w) := by
          intro e1 e2 e3 hh
          rw [if_neg (by simp [Region.wanted, hg, y2 e1 e2 e3])]
          exact skip hh
        cases hst : st d with
        | b b =>
          rw [hst] at h'
          obtain ⟨h1, h2⟩ := h'
          have hy := y1 b hst
          cases hbw : b == want with
          | true =>
            rw [if_pos (by simp only [Region.wanted, hg, hy]; simpa using hbw)]
            have h1 := h1 hbw
            have hb : b = want := by simpa using hbw
            rw [← hb, putA_self hst] at h1
            exact .inl (go h1)
          | false =>
            rw [if_neg (by simp only [Region.wanted, hg, hy]; simpa using hbw)]
            have h2 := h2 hbw
            have hb : (!want) = b := by cases b <;> cases want <;> first | rfl | cases hbw
            rw [hb, putA_self hst] at h2
            exact skip h2
        | top => rw [hst] at h'; exact h'.elim
        | v x =>
          rw [hst] at h'
          obtain ⟨h1, h2⟩ := brn_ok h'
          refine hskip (by rw [hst]; simp) (by rw [hst]; simp) (fun b e => ?_) h2
          rw [hst] at e; cases e; cases h1
        | _ => rw [hst] at h'; exact hskip (by rw [hst]; simp) (by rw [hst]; simp) (by rw [hst]; simp) h'


theorem evOps_step {P : Program} {tt : TT} (tok : TTok P tt) {N : NB} {callF : FuncId → List AV → Mem → T (AV × Mem)} (hc : CallsOk P N callF) {n : Nat} {ds : List Deferred} {ops : Array Oper} (hall : ∀ o ∈ ops.toList, OpOk P n o)
    {o : Oper} {l : List Oper} {st : Tmps} {M : Mem} {φ : Phi} {w : World} {a : Act} {Q : Tmps × Mem → Prop} {Qp : AV → Mem → Prop} {QX : Exit → Act → World → Prop} {K : Act → World → Prop} (h : (evOps P tt callF ops.toList (o :: l) st M).holds Q Qp) (hoo : OpOk P n o)
    (hs : StOk N n ds φ M w st a) (ih : ∀ φ' M' w' st' a', (evOps P tt callF ops.toList l st' M').holds Q Qp → StOk N n ds φ' M' w' st' a' → Ext φ M w φ' M' w' → K a' w') (hp : PanOk N ds φ M w Qp QX) :
    if Region.wanted o (yielded ops a.tmps) = true then o.wp P a w K QX ∨ (o.asks P a w ∧ LetsOut QX) else K (a.put o.dst undef) w :=
  evOps_stepA tok hc hall h hoo hs ih fun v w' hg => hp v a w' hs.defers hg

theorem evOps_ok {P : Program} {tt : TT} (tok : TTok P tt) {N : NB} {callF : FuncId → List AV → Mem → T (AV × Mem)} (hc : CallsOk P N callF) {n : Nat} {ds : List Deferred} {ops : Array Oper} (hall : ∀ o ∈ ops.toList, OpOk P n o)
    (l : List Oper) : ∀ {st : Tmps} {M : Mem} {φ : Phi} {w : World} {a : Act} {Q : Tmps × Mem → Prop} {Qp : AV → Mem → Prop} {QX : Exit → Act → World → Prop} (_ : (evOps P tt callF ops.toList l st M).holds Q Qp) (_ : ∀ o ∈ l, OpOk P n o)
    (_ : StOk N n ds φ M w st a) (_ : ∀ φ' M' w' st' a', Q (st', M') → StOk N n ds φ' M' w' st' a' → Ext φ M w φ' M' w' → QX .normal a' w') (_ : PanOk N ds φ M w Qp QX), wpList P ops QX l a w := by
  induction l with
  | nil => intro st M φ w a Q Qp QX h _ hs hq hp; exact hq φ M w st a h hs (.refl _ _ _)
  | cons o l ih =>
    intro st M φ w a Q Qp QX h hok hs hq hp
    unfold wpList
    exact evOps_step tok hc hall h (hok o (by simp)) hs (fun φ' M' w' st' a' h1 h2 h3 => ih h1 (fun o' ho' => hok o' (by simp [ho'])) h2 (fun φ2 M2 w2 st2 a2 k1 k2 k3 => hq φ2 M2 w2 st2 a2 k1 k2 (h3.trans k3)) (hp.step h3)) hp
end Go.Eng

set_option autoImplicit false
namespace Go.Eng
open Go Go.RowKit

theorem T.nopan_ok {α : Type} {x : T α} {Q : α → Prop} {Qp : AV → Mem → Prop} (h : (T.nopan x).holds Q Qp) : x.holds Q (fun _ _ => False) := by
  induction x with
  | ret a => exact h
  | br b t e iht ihe => exact ⟨fun hb => iht (h.1 hb), fun hb => ihe (h.2 hb)⟩
  | pan x M => exact h.elim
  | ck b t ih => exact ⟨h.1, ih h.2⟩
  | fail => exact h.elim
theorem T.leaf {α : Type} {x : T α} {Q : α → Prop} (h : x.holds Q (fun _ _ => False)) : ∃ a, Q a ∧ x.holds (· = a) (fun _ _ => False) := by
  induction x with
  | ret a => exact ⟨a, h, rfl⟩
  | br b t e iht ihe =>
    cases hb : b with
    | true => obtain ⟨a, h1, h2⟩ := iht (h.1 hb); exact ⟨a, h1, by subst hb; exact And.intro (fun _ => h2) (fun x => nomatch x)⟩
    | false => obtain ⟨a, h1, h2⟩ := ihe (h.2 hb); exact ⟨a, h1, by subst hb; exact And.intro (fun x => nomatch x) (fun _ => h2)⟩
  | pan x M => exact h.elim
  | ck b t ih => obtain ⟨a, h1, h2⟩ := ih h.2; exact ⟨a, h1, h.1, h2⟩
  | fail => exact h.elim

theorem T.leaf_eq {α : Type} {x : T α} {a b : α} (h : x.holds (· = a) (fun _ _ => False)) (h' : x.holds (· = b) (fun _ _ => False)) : a = b := by
  induction x with
  | ret c => exact (show c = a from h).symm.trans h'
  | br c t e iht ihe =>
    cases c with
    | true => exact iht (h.1 rfl) (h'.1 rfl)
    | false => exact ihe (h.2 rfl) (h'.2 rfl)
  | pan x M => exact h'.elim
  | ck c t ih => exact ih h.2 h'.2
  | fail => exact h.elim
section
variable {P : Program} {tt : TT} {callF : FuncId → List AV → Mem → T (AV × Mem)}

theorem yD_cases {x : AV} {f : Bool → T (AV × Mem)} {none : T (AV × Mem)} {Q : AV × Mem → Prop} {Qp : AV → Mem → Prop} (h : (yD x f none).holds Q Qp) :
    (∃ b, x = .b b ∧ (f b).holds Q Qp) ∨ ((∀ b, x ≠ .b b) ∧ x ≠ .top ∧ (∀ b, x ≠ .v (.bool b)) ∧ none.holds Q Qp) := by
  cases x with
  | b b => exact .inl ⟨b, rfl, h⟩
  | top => exact h.elim
  | v y =>
    obtain ⟨h1, h2⟩ := brn_ok (show (T.br (isBoolV y) .fail none).holds Q Qp from h)
    exact .inr ⟨by simp, by simp, (fun b e => by cases e; cases h1), h2⟩
  | _ => exact .inr ⟨by simp, by simp, by simp, h⟩

/-- An operation of a region that draws: it's carried out, or skipped. -/
theorem drawOp_ok {all : List Oper} {A : Mem} {st : Tmps} {o : Oper} {Q : AV × Mem → Prop} {Qp : AV → Mem → Prop} (h : (drawOp P tt callF all A st o).holds Q Qp) :
    (o.guard = none ∧ (evOp ⟨P, tt, callF, A, st⟩ o.op).holds Q (fun _ _ => False)) ∨
    ∃ j want p d, o.guard = some (j, want) ∧ all[j]? = some p ∧ p.dst = some d ∧
      ((∃ b, st d = .b b ∧ (b = want → (evOp ⟨P, tt, callF, A, st⟩ o.op).holds Q (fun _ _ => False)) ∧ (b ≠ want → Q (.v undef, A))) ∨
       ((∀ b, st d ≠ .b b) ∧ st d ≠ .top ∧ (∀ b, st d ≠ .v (.bool b)) ∧ Q (.v undef, A))) := by
  have h : (@Option.rec (Nat × Bool) (fun _ => T (AV × Mem)) (T.nopan (evOp ⟨P, tt, callF, A, st⟩ o.op)) (fun g =>
    onO (nth? all g.1) fun p => onO p.dst fun d => yD (st d) (fun b => .br (b == g.2) (T.nopan (evOp ⟨P, tt, callF, A, st⟩ o.op)) (.ret (.v undef, A))) (.ret (.v undef, A))) o.guard).holds Q Qp := h
  cases hg : o.guard with
  | none => rw [hg] at h; exact .inl ⟨rfl, T.nopan_ok h⟩
  | some g =>
    rw [hg] at h
    obtain ⟨j, want⟩ := g
    obtain ⟨p, hp, h⟩ := onO_ok (show (onO (nth? all j) fun p => onO p.dst fun d => yD (st d) (fun b => .br (b == want) (T.nopan (evOp ⟨P, tt, callF, A, st⟩ o.op)) (.ret (.v undef, A))) (.ret (.v undef, A))).holds Q Qp from h)
    obtain ⟨d, hd, h⟩ := onO_ok h
    rw [nth?_eq] at hp
    refine .inr ⟨j, want, p, d, rfl, hp, hd, ?_⟩
    rcases yD_cases h with ⟨b, hb, h1, h2⟩ | h
    · refine .inl ⟨b, hb, fun e => T.nopan_ok (h1 (by simpa using e)), fun e => h2 (by simpa using e)⟩
    · exact .inr h
theorem drawOp_nopan {all : List Oper} {A : Mem} {st : Tmps} {o : Oper} {Q : AV × Mem → Prop} {Qp : AV → Mem → Prop} (h : (drawOp P tt callF all A st o).holds Q Qp) : (drawOp P tt callF all A st o).holds Q (fun _ _ => False) := by
  have np : ∀ {x : T (AV × Mem)} {Q : AV × Mem → Prop} {Qp : AV → Mem → Prop}, (T.nopan x).holds Q Qp → (T.nopan x).holds Q (fun _ _ => False) := by
    intro x
    induction x with
    | ret a => exact fun h => h
    | br b t e iht ihe => exact fun h => ⟨fun hb => iht (h.1 hb), fun hb => ihe (h.2 hb)⟩
    | pan x M => exact fun h => h
    | ck b t ih => exact fun h => ⟨h.1, ih h.2⟩
    | fail => exact fun h => h
  unfold drawOp at h ⊢
  cases hg : o.guard with
  | none => rw [hg] at h; exact np h
  | some g =>
    rw [hg] at h
    simp only at h ⊢
    cases hp : nth? all g.1 with
    | none => rw [hp] at h; exact h.elim
    | some p =>
      rw [hp] at h
      have h : (onO p.dst fun d => yD (st d) (fun b => .br (b == g.2) (T.nopan (evOp ⟨P, tt, callF, A, st⟩ o.op)) (.ret (.v undef, A))) (.ret (.v undef, A))).holds Q Qp := h
      show (onO p.dst fun d => yD (st d) (fun b => .br (b == g.2) (T.nopan (evOp ⟨P, tt, callF, A, st⟩ o.op)) (.ret (.v undef, A))) (.ret (.v undef, A))).holds Q _
      cases hd : p.dst with
      | none => rw [hd] at h; exact h.elim
      | some d =>
        rw [hd] at h
        have h : (yD (st d) (fun b => .br (b == g.2) (T.nopan (evOp ⟨P, tt, callF, A, st⟩ o.op)) (.ret (.v undef, A))) (.ret (.v undef, A))).holds Q Qp := h
        show (yD (st d) (fun b => .br (b == g.2) (T.nopan (evOp ⟨P, tt, callF, A, st⟩ o.op)) (.ret (.v undef, A))) (.ret (.v undef, A))).holds Q _
        cases hs : st d with
        | b b => rw [hs] at h; exact ⟨fun e => np (h.1 e), fun e => h.2 e⟩
        | v y => rw [hs] at h; obtain ⟨h1, h2⟩ := brn_ok h; exact (show (isBoolV y = true → _) ∧ (isBoolV y = false → _) from ⟨(fun e => by rw [h1] at e; cases e), fun _ => h2⟩)
        | top => rw [hs] at h; exact h.elim
        | _ => rw [hs] at h; exact h

theorem memA_congr {M0 : Mem} {big : Nat} {R R' : DR} {anc j : Nat} (h : ∀ k, Nat.testBit anc k = true → R k = R' k) : memA M0 big R anc j = memA M0 big R' anc j := by
  unfold memA
  congr 1
  funext id
  rw [bif2_eq, bif2_eq, bif2_eq, bif2_eq]
  split
  · rfl
  · split
    · rename_i hb; rw [h _ hb]
    · rfl
theorem stA_congr {R R' : DR} {st0 : Tmps} {anc : Nat} (h : ∀ k, Nat.testBit anc k = true → R k = R' k) (l : List Oper) : ∀ k, stA R st0 anc l k = stA R' st0 anc l k := by
  induction l with
  | nil => intro k; rfl
  | cons o l ih =>
    intro k
    show putA o.dst (stA R st0 anc l (k + 1)) (bif2 (Nat.testBit anc k) (R k).1 .top) = putA o.dst (stA R' st0 anc l (k + 1)) (bif2 (Nat.testBit anc k) (R' k).1 .top)
    rw [ih, bif2_eq, bif2_eq]
    split
    · rename_i hb; rw [h _ hb]
    · rfl

/-- What is told by slots alone, where it is carried out at all. -/
def PW (all : List Oper) (st : Tmps) (o : Oper) : Prop := (o.guard = none → pureV st o.op = true) ∧ ∀ g, o.guard = some g → ∀ p d, all[g.1]? = some p → p.dst = some d → st d = .b g.2 → pureV st o.op = true
theorem drawOpF_ok {all : List Oper} {A : Mem} {st : Tmps} {o : Oper} {Q : (AV × Mem) × Bool → Prop} {Qp : AV → Mem → Prop} (h : (drawOpF P tt callF all A st o).holds Q Qp) :
    (drawOp P tt callF all A st o).holds (fun x => ∃ fl, Q (x, fl) ∧ (fl = true → PW all st o)) Qp := by
  unfold drawOpF at h
  unfold drawOp
  cases hg : o.guard with
  | none =>
    rw [hg] at h
    have h : ((T.nopan (evOp ⟨P, tt, callF, A, st⟩ o.op)).bind fun x => .ret (x, pureV st o.op)).holds Q Qp := h
    rw [T.holds_bind] at h
    refine T.holds_mono h (fun x hx => ⟨_, hx, fun e => ⟨fun _ => e, fun g e' => ?_⟩⟩) fun _ _ h => h
    rw [hg] at e'; cases e'
  | some g =>
    rw [hg] at h
    have h : (onO (nth? all g.1) fun p => onO p.dst fun d => yE (st d) (fun b => .br (b == g.2) ((T.nopan (evOp ⟨P, tt, callF, A, st⟩ o.op)).bind fun x => .ret (x, pureV st o.op)) (.ret ((.v undef, A), true))) (.ret ((.v undef, A), true))).holds Q Qp := h
    show (onO (nth? all g.1) fun p => onO p.dst fun d => yD (st d) (fun b => .br (b == g.2) (T.nopan (evOp ⟨P, tt, callF, A, st⟩ o.op)) (.ret (.v undef, A))) (.ret (.v undef, A))).holds _ Qp
    cases hp : nth? all g.1 with
    | none => rw [hp] at h; exact h.elim
    | some p =>
      rw [hp] at h
      have h : (onO p.dst fun d => yE (st d) (fun b => .br (b == g.2) ((T.nopan (evOp ⟨P, tt, callF, A, st⟩ o.op)).bind fun x => .ret (x, pureV st o.op)) (.ret ((.v undef, A), true))) (.ret ((.v undef, A), true))).holds Q Qp := h
      show (onO p.dst fun d => yD (st d) (fun b => .br (b == g.2) (T.nopan (evOp ⟨P, tt, callF, A, st⟩ o.op)) (.ret (.v undef, A))) (.ret (.v undef, A))).holds _ Qp
      cases hd : p.dst with
      | none => rw [hd] at h; exact h.elim
      | some d =>
        rw [hd] at h
        have h : (yE (st d) (fun b => .br (b == g.2) ((T.nopan (evOp ⟨P, tt, callF, A, st⟩ o.op)).bind fun x => .ret (x, pureV st o.op)) (.ret ((.v undef, A), true))) (.ret ((.v undef, A), true))).holds Q Qp := h
        show (yD (st d) (fun b => .br (b == g.2) (T.nopan (evOp ⟨P, tt, callF, A, st⟩ o.op)) (.ret (.v undef, A))) (.ret (.v undef, A))).holds _ Qp
        rw [nth?_eq] at hp
        have no : (∀ b, st d ≠ .b b) → PW all st o := fun hb => ⟨fun e => by rw [hg] at e; (cases e), fun g' e p' d' h1 h2 h3 => by
          rw [hg] at e; cases e; rw [hp] at h1; cases h1; rw [hd] at h2; cases h2; exact absurd h3 (hb _)⟩
        cases hs : st d with
        | b b =>
          rw [hs] at h
          have h : (T.br (b == g.2) ((T.nopan (evOp ⟨P, tt, callF, A, st⟩ o.op)).bind fun x => .ret (x, pureV st o.op)) (.ret ((.v undef, A), true))).holds Q Qp := h
          refine (show (T.br (b == g.2) (T.nopan (evOp ⟨P, tt, callF, A, st⟩ o.op)) (.ret (.v undef, A))).holds _ Qp from ⟨fun e => ?_, fun e => ?_⟩)
          · have h1 := h.1 e
            have h1 : ((T.nopan (evOp ⟨P, tt, callF, A, st⟩ o.op)).bind fun x => .ret (x, pureV st o.op)).holds Q Qp := h1
            rw [T.holds_bind] at h1
            refine T.holds_mono h1 (fun x hx => ⟨_, hx, fun e => ⟨fun _ => e, fun _ _ _ _ _ _ _ => e⟩⟩) fun _ _ h => h
          · refine (show ∃ fl, Q ((.v undef, A), fl) ∧ (fl = true → PW all st o) from ⟨true, h.2 e, fun _ => ⟨fun e => by rw [hg] at e; (cases e), fun g' e' p' d' h1 h2 h3 => ?_⟩⟩)
            rw [hg] at e'; cases e'; rw [hp] at h1; cases h1; rw [hd] at h2; cases h2
            rw [hs] at h3; cases h3; simp at e
        | v y => rw [hs] at h; obtain ⟨h1, h2⟩ := brn_ok h; exact (show (isBoolV y = true → _) ∧ (isBoolV y = false → _) from ⟨(fun e => by rw [h1] at e; cases e), fun _ => (show ∃ fl, Q ((.v undef, A), fl) ∧ (fl = true → PW all st o) from ⟨true, h2, fun _ => no (by rw [hs]; simp)⟩)⟩)
        | top => rw [hs] at h; exact h.elim
        | _ => rw [hs] at h; exact (show ∃ fl, Q ((.v undef, A), fl) ∧ (fl = true → PW all st o) from ⟨true, h, fun _ => no (by rw [hs]; simp)⟩)
theorem bif2_tt {b c : Bool} (h : bif2 b c false = true) : b = true ∧ c = true := by cases b <;> cases c <;> first | exact ⟨rfl, rfl⟩ | cases h
theorem allTop_get (l : List AV) (h : allTop l = true) : ∀ x ∈ l, x = .top := by
  induction l with
  | nil => intro x hx; cases hx
  | cons y l ih =>
    obtain ⟨h1, h2⟩ := bif2_tt (show bif2 (isTopA y) (allTop l) false = true from h)
    intro x hx
    rcases List.mem_cons.1 hx with rfl | hx
    · cases x <;> first | rfl | cases h1
    · exact ih h2 x hx
theorem noClash_spec {G : GS} {id off sz : Nat} : ∀ (j : Nat), noClash G id off sz j = true → ∀ k, k < j → ∀ id' off' l', G k = some (id', off', l') → id' = id → off + sz ≤ off' ∨ off' + l'.length ≤ off := by
  intro j
  induction j with
  | zero => intro _ k hk; omega
  | succ j ih =>
    intro h k hk id' off' l' hG e
    obtain ⟨h1, h2⟩ := bif2_tt (show bif2 (@Option.rec (Nat × Nat × List AV) (fun _ => Bool) true (fun g => bif2 (Nat.beq g.1 id) (bif2 (Nat.ble (off + sz) g.2.1) true (Nat.ble (g.2.1 + g.2.2.length) off)) true) (G j)) (noClash G id off sz j) false = true from h)
    rcases Nat.lt_or_ge k j with h3 | h3
    · exact ih h2 k h3 id' off' l' hG e
    · obtain rfl : k = j := by omega
      rw [hG] at h1
      subst e
      have h1 : bif2 (Nat.beq id' id') (bif2 (Nat.ble (off + sz) off') true (Nat.ble (off' + l'.length) off)) true = true := h1
      rw [bif2_eq, if_pos (Nat.beq_refl _), bif2_eq] at h1
      split at h1
      · rename_i h4; exact .inl (Nat.le_of_ble_eq_true h4)
      · exact .inr (Nat.le_of_ble_eq_true h1)
/-- A store to what is there. -/
structure FltAt (tt : TT) (M0 A : Mem) (G : GS) (j : Nat) (st : Tmps) (o : Oper) : Prop where
  ex : ∃ t a x id r c e rs cells, o.op = .store t a x ∧ o.guard = none ∧ o.dst = none ∧ (tt t).u ≠ .bad ∧ evA st a = .ptr id r c ∧ A.get id = .own e rs cells ∧ G j = some (id, r * rs + c, (evA st x).cells) ∧
    M0.lock ≤ id ∧ allLeaf (evA st x).cells = true ∧ (evA st x).cells.length = (tt t).size ∧ r * rs + c + (tt t).size ≤ cells.length ∧ (∀ y ∈ (cells.drop (r * rs + c)).take (tt t).size, y = .top) ∧
    ∀ k, k < j → ∀ off' l', G k = some (id, off', l') → r * rs + c + (tt t).size ≤ off' ∨ off' + l'.length ≤ r * rs + c
theorem isStore_some {o : Oper} {t : TypeId} {a x : Operand} (h : isStore o = some (t, a, x)) : o.op = .store t a x ∧ o.guard = none ∧ o.dst = none := by
  unfold isStore at h
  cases ho : o.op with
  | store t' a' x' =>
    rw [ho] at h
    cases hg : o.guard with
    | none =>
      rw [hg] at h
      cases hd : o.dst with
      | none => rw [hd] at h; cases h; exact ⟨rfl, rfl, rfl⟩
      | some d => rw [hd] at h; cases h
    | some g => rw [hg] at h; cases h
  | _ => rw [ho] at h; cases h
theorem fltGo_ok {β : Type} {M0 A : Mem} {st : Tmps} {G : GS} {j : Nat} {t : TypeId} {a x : Operand} {k : Nat × Nat × List AV → T β} {Q : β → Prop} {Qp : AV → Mem → Prop} (h : (fltGo tt M0 A st G j t a x k).holds Q Qp) :
    ∃ id r c e rs cells, evA st a = .ptr id r c ∧ A.get id = .own e rs cells ∧ fltOk M0 G j id (r * rs + c) (tt t).size (evA st x).cells cells = true ∧ (k (id, r * rs + c, (evA st x).cells)).holds Q Qp := by
  obtain ⟨id, r, c, ha, h⟩ := onPtr_ok h
  cases hg : A.get id with
  | own e rs cells =>
    rw [hg] at h
    obtain ⟨h1, h2⟩ := ck_ok h
    exact ⟨id, r, c, e, rs, cells, ha, hg, h1, h2⟩
  | dead => rw [hg] at h; exact h.elim
  | ro a b c => rw [hg] at h; exact h.elim
  | vec a b c => rw [hg] at h; exact h.elim
  | map a b => rw [hg] at h; exact h.elim
theorem fltOk_spec {M0 : Mem} {G : GS} {j id off sz : Nat} {l cells : List AV} (h : fltOk M0 G j id off sz l cells = true) : M0.lock ≤ id ∧ allLeaf l = true ∧ l.length = sz ∧ off + sz ≤ cells.length ∧ (∀ y ∈ (cells.drop off).take sz, y = .top) ∧ noClash G id off sz j = true := by
  unfold fltOk at h
  obtain ⟨h1, h⟩ := bif2_tt h
  obtain ⟨h3, h⟩ := bif2_tt h
  obtain ⟨h4, h⟩ := bif2_tt h
  obtain ⟨h5, h⟩ := bif2_tt h
  obtain ⟨h6, h⟩ := bif2_tt h
  exact ⟨Nat.le_of_ble_eq_true h1, h3, Nat.eq_of_beq_eq_true h4, Nat.le_of_ble_eq_true h5, allTop_get _ h6, h⟩
theorem topM_next (tg : List (Nat × Nat × Nat)) (M : Mem) : (topM tg M).next = M.next := by cases tg <;> rfl
theorem topNew_next (l : List (Nat × Nat)) (x : AV × Mem) : (topNew l x).2.next = x.2.next := by
  cases l with
  | nil => rfl
  | cons p l =>
    obtain ⟨v, M⟩ := x
    cases v <;> first | rfl | exact topM_next _ _
theorem drawGo_ok {all : List Oper} {mk : Nat → Nat} {M0 : Mem} {st0 : Tmps} {big : Nat} {nt : Option Nat → List (Nat × Nat)} (hmk : ∀ j k, Nat.testBit (mk j) k = true → k < j) (l : List Oper) : ∀ {j : Nat} {R : DR} {F : Nat → Bool} {G : GS} {Q : DG → Prop} {Qp : AV → Mem → Prop}
    (_ : ∀ k, j ≤ k → G k = none) (_ : (drawGo P tt callF all mk M0 st0 big nt l j R F G).holds Q Qp), ∃ R' F' G', Q (R', F', G') ∧ (∀ k, k < j → R' k = R k ∧ F' k = F k ∧ G' k = G k) ∧ (∀ k, j + l.length ≤ k → G' k = none) ∧
      ∀ i o, l[i]? = some o → (G' (j + i) = none ∧ (∃ x, (drawOp P tt callF all (memA M0 big R' (mk (j + i)) (j + i)) (stA R' st0 (mk (j + i)) (effL mk (j + i) all 0) 0) o).holds (· = x) (fun _ _ => False) ∧ R' (j + i) = topNew (nt o.dst) x) ∧ (R' (j + i)).2.next ≤ M0.next + (j + i + 1) * big ∧
        (F' (j + i) = true → PW all (stA R' st0 (mk (j + i)) (effL mk (j + i) all 0) 0) o)) ∨ (FltAt tt M0 (memA M0 big R' (mk (j + i)) (j + i)) G' (j + i) (stA R' st0 (mk (j + i)) (effL mk (j + i) all 0) 0) o ∧ R' (j + i) = (.v undef, memA M0 big R' (mk (j + i)) (j + i)) ∧ F' (j + i) = false) := by
  induction l with
  | nil => intro j R F G Q Qp hG h; exact ⟨R, F, G, h, fun _ _ => ⟨rfl, rfl, rfl⟩, fun k hk => hG k (by simpa using hk), by simp⟩
  | cons o l ih =>
    intro j R F G Q Qp hG h
    have h : (@Option.rec (TypeId × Operand × Operand) (fun _ => T DG) ((drawOpF P tt callF all (memA M0 big R (mk j) j) (stA R st0 (mk j) (effL mk j all 0) 0) o).bind fun x =>
        .ck (Nat.ble x.1.2.next (M0.next + (j + 1) * big)) (drawGo P tt callF all mk M0 st0 big nt l (j + 1) (upd R j (topNew (nt o.dst) x.1)) (upd F j x.2) G)) (fun s => onK (tt s.1).u
        (fltGo tt M0 (memA M0 big R (mk j) j) (stA R st0 (mk j) (effL mk j all 0) 0) G j s.1 s.2.1 s.2.2 fun g => drawGo P tt callF all mk M0 st0 big nt l (j + 1) (upd R j (.v undef, memA M0 big R (mk j) j)) (upd F j false) (upd G j (some g)))
        (fltGo tt M0 (memA M0 big R (mk j) j) (stA R st0 (mk j) (effL mk j all 0) 0) G j s.1 s.2.1 s.2.2 fun g => drawGo P tt callF all mk M0 st0 big nt l (j + 1) (upd R j (.v undef, memA M0 big R (mk j) j)) (upd F j false) (upd G j (some g)))) (isStore o)).holds Q Qp := h
    cases hs : isStore o with
    | none =>
      rw [hs] at h
      have h : ((drawOpF P tt callF all (memA M0 big R (mk j) j) (stA R st0 (mk j) (effL mk j all 0) 0) o).bind fun x =>
        .ck (Nat.ble x.1.2.next (M0.next + (j + 1) * big)) (drawGo P tt callF all mk M0 st0 big nt l (j + 1) (upd R j (topNew (nt o.dst) x.1)) (upd F j x.2) G)).holds Q Qp := h
      rw [T.holds_bind] at h
      obtain ⟨x, hx, hh⟩ := T.leaf (drawOp_nopan (drawOpF_ok h))
      obtain ⟨fl, hx, hfl⟩ := hx
      obtain ⟨hn, hrest⟩ := ck_ok (show (T.ck (Nat.ble x.2.next (M0.next + (j + 1) * big)) (drawGo P tt callF all mk M0 st0 big nt l (j + 1) (upd R j (topNew (nt o.dst) x)) (upd F j fl) G)).holds Q Qp from hx)
      obtain ⟨R', F', G', hq, hR, hGn, hall⟩ := ih (fun k hk => hG k (by omega)) hrest
      have hRj : R' j = topNew (nt o.dst) x := by rw [(hR j (by omega)).1, upd_eq, if_pos rfl]
      have hFj : F' j = fl := by rw [(hR j (by omega)).2.1, upd_eq, if_pos rfl]
      have hRlt : ∀ k, k < j → R' k = R k ∧ F' k = F k ∧ G' k = G k := fun k hk => by rw [(hR k (by omega)).1, (hR k (by omega)).2.1, (hR k (by omega)).2.2, upd_eq, upd_eq, if_neg (by omega), if_neg (by omega)]; exact ⟨rfl, rfl, rfl⟩
      refine ⟨R', F', G', hq, hRlt, fun k hk => hGn k (by simp only [List.length_cons] at hk; omega), fun i p hp => ?_⟩
      cases i with
      | zero =>
        simp only [List.getElem?_cons_zero, Option.some.injEq] at hp
        subst hp
        simp only [Nat.add_zero]
        have e1 : memA M0 big R' (mk j) j = memA M0 big R (mk j) j := memA_congr fun k hk => (hRlt k (hmk j k hk)).1
        have e2 : stA R' st0 (mk j) (effL mk j all 0) 0 = stA R st0 (mk j) (effL mk j all 0) 0 := stA_congr (fun k hk => (hRlt k (hmk j k hk)).1) (effL mk j all 0) 0
        rw [e1, e2, hRj, hFj]
        exact .inl ⟨by rw [(hR j (by omega)).2.2]; exact hG j (Nat.le_refl _), ⟨x, hh, rfl⟩, by rw [topNew_next]; exact Nat.le_of_ble_eq_true hn, hfl⟩
      | succ i =>
        have := hall i p (by simpa using hp)
        rwa [show j + 1 + i = j + (i + 1) by omega] at this
    | some s =>
      obtain ⟨t, a, x⟩ := s
      rw [hs] at h
      obtain ⟨hb, h⟩ := onK_both (show (onK (tt t).u (fltGo tt M0 (memA M0 big R (mk j) j) (stA R st0 (mk j) (effL mk j all 0) 0) G j t a x fun g => drawGo P tt callF all mk M0 st0 big nt l (j + 1) (upd R j (.v undef, memA M0 big R (mk j) j)) (upd F j false) (upd G j (some g)))
        (fltGo tt M0 (memA M0 big R (mk j) j) (stA R st0 (mk j) (effL mk j all 0) 0) G j t a x fun g => drawGo P tt callF all mk M0 st0 big nt l (j + 1) (upd R j (.v undef, memA M0 big R (mk j) j)) (upd F j false) (upd G j (some g)))).holds Q Qp from h)
      obtain ⟨id, r, c, e, rs, cells, ha, hg, hok, hrest⟩ := fltGo_ok h
      obtain ⟨R', F', G', hq, hR, hGn, hall⟩ := ih (fun k hk => by rw [upd_eq, if_neg (by omega)]; exact hG k (by omega)) hrest
      have hRj : R' j = (.v undef, memA M0 big R (mk j) j) := by rw [(hR j (by omega)).1, upd_eq, if_pos rfl]
      have hFj : F' j = false := by rw [(hR j (by omega)).2.1, upd_eq, if_pos rfl]
      have hGj : G' j = some (id, r * rs + c, (evA (stA R st0 (mk j) (effL mk j all 0) 0) x).cells) := by rw [(hR j (by omega)).2.2, upd_eq, if_pos rfl]
      have hRlt : ∀ k, k < j → R' k = R k ∧ F' k = F k ∧ G' k = G k := fun k hk => by rw [(hR k (by omega)).1, (hR k (by omega)).2.1, (hR k (by omega)).2.2, upd_eq, upd_eq, upd_eq, if_neg (by omega), if_neg (by omega), if_neg (by omega)]; exact ⟨rfl, rfl, rfl⟩
      refine ⟨R', F', G', hq, hRlt, fun k hk => hGn k (by simp only [List.length_cons] at hk; omega), fun i p hp => ?_⟩
      cases i with
      | zero =>
        simp only [List.getElem?_cons_zero, Option.some.injEq] at hp
        subst hp
        simp only [Nat.add_zero]
        have e1 : memA M0 big R' (mk j) j = memA M0 big R (mk j) j := memA_congr fun k hk => (hRlt k (hmk j k hk)).1
        have e2 : stA R' st0 (mk j) (effL mk j all 0) 0 = stA R st0 (mk j) (effL mk j all 0) 0 := stA_congr (fun k hk => (hRlt k (hmk j k hk)).1) (effL mk j all 0) 0
        obtain ⟨k1, k3, k4, k5, k6, k7⟩ := fltOk_spec hok
        obtain ⟨o1, o2, o3⟩ := isStore_some hs
        rw [e1, e2, hRj, hFj]
        exact .inr ⟨⟨t, a, x, id, r, c, e, rs, cells, o1, o2, o3, hb, ha, hg, hGj, k1, k3, k4, k5, k6, fun k hk off' l' hG' => noClash_spec j k7 k hk id off' l' (by rw [← (hRlt k hk).2.2]; exact hG') rfl⟩, rfl, rfl⟩
      | succ i =>
        have := hall i p (by simpa using hp)
        rwa [show j + 1 + i = j + (i + 1) by omega] at this
end
end Go.Eng

set_option autoImplicit false
namespace Go.Eng
open Go Go.RowKit

theorem ancOf_bit (mk : Nat → Nat) (es : List Edge) (k : Nat) : Nat.testBit (ancOf mk es) k = true ↔ ∃ e ∈ es, bindsE e = true ∧ (Nat.testBit (mk e.on) k = true ∨ e.on = k) := by
  induction es with
  | nil => simp [ancOf]
  | cons e es ih =>
    have h : ancOf mk (e :: es) = bif2 (bindsE e) (Nat.lor (Nat.lor (mk e.on) (Nat.shiftLeft 1 e.on)) (ancOf mk es)) (ancOf mk es) := rfl
    rw [h, bif2_eq]
    by_cases hb : bindsE e = true
    · rw [if_pos hb]
      show Nat.testBit ((mk e.on ||| 1 <<< e.on) ||| ancOf mk es) k = true ↔ _
      rw [Nat.testBit_or, Nat.testBit_or, Bool.or_eq_true, Bool.or_eq_true, ih, Nat.one_shiftLeft, Nat.testBit_two_pow]
      simp [hb]
    · rw [if_neg hb, ih]
      simp [hb]

theorem masks_keep (l : List Oper) : ∀ (j : Nat) (mk : Nat → Nat) (k : Nat), k < j → masks l j mk k = mk k := by
  induction l with
  | nil => intro j mk k _; rfl
  | cons o l ih =>
    intro j mk k hk
    show masks l (j + 1) (upd mk j (ancOf mk o.after.toList)) k = mk k
    rw [ih _ _ _ (by omega), upd_eq, if_neg (by omega)]
theorem masks_at (l : List Oper) : ∀ (j : Nat) (mk : Nat → Nat) (_ : edgesOk l j = true) (i : Nat) (o : Oper), l[i]? = some o → masks l j mk (j + i) = ancOf (masks l j mk) o.after.toList := by
  induction l with
  | nil => intro j mk _ i o h; simp at h
  | cons p l ih =>
    intro j mk he i o h
    have he : (p.after.toList.all (fun e => !bindsE e || Nat.blt e.on j) && edgesOk l (j + 1)) = true := he
    obtain ⟨h1, h2⟩ := Bool.and_eq_true_iff.1 he
    have hm : masks (p :: l) j mk = masks l (j + 1) (upd mk j (ancOf mk p.after.toList)) := rfl
    rw [hm]
    cases i with
    | zero =>
      simp only [List.getElem?_cons_zero, Option.some.injEq] at h
      subst h
      have e0 : masks l (j + 1) (upd mk j (ancOf mk p.after.toList)) (j + 0) = ancOf mk p.after.toList := by
        rw [masks_keep _ _ _ _ (by omega), upd_eq, if_pos (Nat.add_zero j)]
      rw [e0]
      -- the masks that it asks are those of the end
      have : ∀ es : List Edge, (∀ e ∈ es, bindsE e = true → e.on < j) → ancOf mk es = ancOf (masks l (j + 1) (upd mk j (ancOf mk p.after.toList))) es := by
        intro es
        induction es with
        | nil => intro _; rfl
        | cons e es ihe =>
          intro hes
          show bif2 (bindsE e) (Nat.lor (Nat.lor (mk e.on) (Nat.shiftLeft 1 e.on)) (ancOf mk es)) (ancOf mk es) =
            bif2 (bindsE e) (Nat.lor (Nat.lor (masks l (j + 1) (upd mk j (ancOf mk p.after.toList)) e.on) (Nat.shiftLeft 1 e.on)) (ancOf (masks l (j + 1) (upd mk j (ancOf mk p.after.toList))) es)) (ancOf (masks l (j + 1) (upd mk j (ancOf mk p.after.toList))) es)
          rw [← ihe (fun e he => hes e (by simp [he])), bif2_eq, bif2_eq]
          split
          · rename_i hb
            have hlt := hes e (by simp) hb
            rw [masks_keep _ _ _ _ (by omega), upd_eq, if_neg (by omega)]
          · rfl
      refine this _ fun e he hb => ?_
      have := List.all_eq_true.1 h1 e he
      rw [hb] at this
      have : Nat.blt e.on j = true := by simpa [-Nat.blt_eq] using this
      exact Nat.le_of_ble_eq_true this
    | succ i =>
      have := ih (j + 1) (upd mk j (ancOf mk p.after.toList)) h2 i o (by simpa using h)
      rwa [show j + 1 + i = j + (i + 1) by omega] at this

structure MaskOk (all : List Oper) (mk : Nat → Nat) : Prop where
  lt : ∀ j k, Nat.testBit (mk j) k = true → k < j
  edge : ∀ j o, all[j]? = some o → ∀ e ∈ o.after, Region.binds .any e = true → Nat.testBit (mk j) e.on = true
  trans : ∀ j k i, Nat.testBit (mk j) k = true → Nat.testBit (mk k) i = true → Nat.testBit (mk j) i = true
  via : ∀ j o, all[j]? = some o → ∀ k, Nat.testBit (mk j) k = true → ∃ e ∈ o.after, Region.binds .any e = true ∧ (Nat.testBit (mk e.on) k = true ∨ e.on = k)
theorem edgesOk_lt {l : List Oper} : ∀ {j : Nat} (_ : edgesOk l j = true) {i : Nat} {o : Oper} (_ : l[i]? = some o) {e : Edge} (_ : e ∈ o.after.toList) (_ : bindsE e = true), e.on < j + i := by
  induction l with
  | nil => intro j _ i o h; simp at h
  | cons p l ih =>
    intro j he i o h e hm hb
    have he : (p.after.toList.all (fun e => !bindsE e || Nat.blt e.on j) && edgesOk l (j + 1)) = true := he
    obtain ⟨h1, h2⟩ := Bool.and_eq_true_iff.1 he
    cases i with
    | zero =>
      simp only [List.getElem?_cons_zero, Option.some.injEq] at h
      subst h
      have := List.all_eq_true.1 h1 e hm
      rw [hb] at this
      have : Nat.blt e.on j = true := by simpa [-Nat.blt_eq] using this
      have := Nat.le_of_ble_eq_true this
      omega
    | succ i =>
      have := ih h2 (i := i) (by simpa using h) hm hb
      omega
theorem masks_over (l : List Oper) : ∀ (j : Nat) (mk : Nat → Nat) (k : Nat), j + l.length ≤ k → masks l j mk k = mk k := by
  induction l with
  | nil => intro j mk k _; rfl
  | cons o l ih =>
    intro j mk k hk
    show masks l (j + 1) (upd mk j (ancOf mk o.after.toList)) k = mk k
    simp only [List.length_cons] at hk
    rw [ih _ _ _ (by omega), upd_eq, if_neg (by omega)]
theorem maskOk {all : List Oper} (h : edgesOk all 0 = true) : MaskOk all (masks all 0 fun _ => 0) := by
  have hat : ∀ j o, all[j]? = some o → masks all 0 (fun _ => 0) j = ancOf (masks all 0 fun _ => 0) o.after.toList := fun j o ho => by
    have := masks_at all 0 (fun _ => 0) h j o ho
    rwa [Nat.zero_add] at this
  have hover : ∀ j, all[j]? = none → masks all 0 (fun _ => 0) j = 0 := fun j hj => masks_over all 0 _ j (by simpa using hj)
  generalize hm : masks all 0 (fun _ => 0) = mk at hat hover
  have hvia : ∀ j o, all[j]? = some o → ∀ k, Nat.testBit (mk j) k = true ↔ ∃ e ∈ o.after.toList, bindsE e = true ∧ (Nat.testBit (mk e.on) k = true ∨ e.on = k) := fun j o ho k => by
    rw [hat j o ho, ancOf_bit]
  have hlt : ∀ j k, Nat.testBit (mk j) k = true → k < j := by
    intro j
    induction j using Nat.strongRecOn with
    | _ j ih =>
      intro k hk
      cases ho : all[j]? with
      | none => rw [hover j ho] at hk; simp at hk
      | some o =>
        obtain ⟨e, he, hb, hh⟩ := (hvia j o ho k).1 hk
        have hlt := edgesOk_lt h ho he hb
        rw [Nat.zero_add] at hlt
        rcases hh with hh | rfl
        · have := ih e.on hlt k hh; omega
        · exact hlt
  refine ⟨hlt, fun j o ho e he hb => (hvia j o ho e.on).2 ⟨e, by simpa using he, hb, .inr rfl⟩, fun j => ?_, fun j o ho k hk => ?_⟩
  · induction j using Nat.strongRecOn with
    | _ j ih =>
      intro k i hk hi
      cases ho : all[j]? with
      | none => rw [hover j ho] at hk; simp at hk
      | some o =>
        obtain ⟨e, he, hb, hh⟩ := (hvia j o ho k).1 hk
        have hlt := edgesOk_lt h ho he hb
        rw [Nat.zero_add] at hlt
        refine (hvia j o ho i).2 ⟨e, he, hb, .inl ?_⟩
        rcases hh with hh | rfl
        · exact ih e.on hlt k i hh hi
        · exact hi
  · obtain ⟨e, he, hb, hh⟩ := (hvia j o ho k).1 hk
    exact ⟨e, by simpa using he, hb, hh⟩

theorem dstsOk_ne {l : List Oper} (h : dstsOk l = true) : ∀ (i j : Nat) (o p : Oper) (d : Tmp), l[i]? = some o → l[j]? = some p → o.dst = some d → p.dst = some d → i = j := by
  induction l with
  | nil => intro i j o p d h; simp at h
  | cons q l ih =>
    have h' : ((match q.dst with | some d => l.all (fun p => !(p.dst == some d)) | none => true) && dstsOk l) = true := h
    obtain ⟨h1, h2⟩ := Bool.and_eq_true_iff.1 h'
    have key : ∀ (j : Nat) (p : Oper) (d : Tmp), l[j]? = some p → q.dst = some d → p.dst = some d → False := by
      intro j p d hj hq hp
      rw [hq] at h1
      have := List.all_eq_true.1 h1 p (List.mem_of_getElem? hj)
      rw [hp] at this; simp at this
    intro i j o p d hi hj ho hp
    cases i with
    | zero =>
      simp only [List.getElem?_cons_zero, Option.some.injEq] at hi
      subst hi
      cases j with
      | zero => rfl
      | succ j => exact (key j p d (by simpa using hj) ho hp).elim
    | succ i =>
      cases j with
      | zero =>
        simp only [List.getElem?_cons_zero, Option.some.injEq] at hj
        subst hj
        exact (key i o d (by simpa using hi) hp ho).elim
      | succ j => rw [ih h2 i j o p d (by simpa using hi) (by simpa using hj) ho hp]

/-- A slot, as it is told. -/
theorem stA_spec {R : DR} {st0 : Tmps} {anc : Nat} (l : List Oper) : ∀ (k t : Nat), (∃ i o, l[i]? = some o ∧ o.dst = some t ∧ stA R st0 anc l k t = if Nat.testBit anc (k + i) = true then (R (k + i)).1 else .top) ∨ ((∀ (i : Nat) (o : Oper), l[i]? = some o → o.dst ≠ some t) ∧ stA R st0 anc l k t = st0 t) := by
  induction l with
  | nil => intro k t; exact .inr ⟨by simp, rfl⟩
  | cons o l ih =>
    intro k t
    have h : stA R st0 anc (o :: l) k = putA o.dst (stA R st0 anc l (k + 1)) (bif2 (Nat.testBit anc k) (R k).1 .top) := rfl
    rw [h]
    by_cases hd : o.dst = some t
    · refine .inl ⟨0, o, rfl, hd, ?_⟩
      rw [putA_eq, hd, Nat.add_zero, bif2_eq]
      simp
    · have e : putA o.dst (stA R st0 anc l (k + 1)) (bif2 (Nat.testBit anc k) (R k).1 .top) t = stA R st0 anc l (k + 1) t := by
        rw [putA_eq]
        cases hh : o.dst with
        | none => rfl
        | some d => simp only; rw [if_neg (by intro e; subst e; exact hd hh)]
      rw [e]
      rcases ih (k + 1) t with ⟨i, p, hp, hpd, hv⟩ | ⟨hno, hv⟩
      · refine .inl ⟨i + 1, p, by simpa using hp, hpd, ?_⟩
        rw [hv, show k + 1 + i = k + (i + 1) by omega]
      · refine .inr ⟨fun i p hp => ?_, hv⟩
        cases i with
        | zero => simp only [List.getElem?_cons_zero, Option.some.injEq] at hp; subst hp; exact hd
        | succ i => exact hno i p (by simpa using hp)
theorem effL_get (mk : Nat → Nat) (j : Nat) (l : List Oper) : ∀ (k i : Nat), (effL mk j l k)[i]? = (l[i]?).map fun o => if Nat.testBit (mk (k + i)) j = true then effO o else o := by
  induction l with
  | nil => intro k i; rfl
  | cons o l ih =>
    intro k i
    show (bif2 (Nat.testBit (mk k) j) (effO o) o :: effL mk j l (k + 1))[i]? = _
    rw [bif2_eq]
    cases i with
    | zero => simp
    | succ i => simp only [List.getElem?_cons_succ]; rw [ih, show k + 1 + i = k + (i + 1) by omega]
/-- A slot, as it is told at operation j. -/
theorem stJ_spec {R : DR} {st0 : Tmps} {anc : Nat} {mk : Nat → Nat} {j : Nat} (l : List Oper) (t : Nat) : (∃ i o, l[i]? = some o ∧ o.dst = some t ∧ stA R st0 anc (effL mk j l 0) 0 t = if Nat.testBit anc i = true then (R i).1 else .top) ∨
    ((∀ (i : Nat) (o : Oper), l[i]? = some o → o.dst = some t → Nat.testBit (mk i) j = true) ∧ stA R st0 anc (effL mk j l 0) 0 t = st0 t) := by
  rcases stA_spec (R := R) (st0 := st0) (anc := anc) (effL mk j l 0) 0 t with ⟨i, o, ho, hd, hv⟩ | ⟨hno, hv⟩
  · rw [effL_get, Option.map_eq_some_iff] at ho
    obtain ⟨p, hp, he⟩ := ho
    simp only [Nat.zero_add] at he hv
    split at he
    · subst he; cases hd
    · subst he; exact .inl ⟨i, p, hp, hd, hv⟩
  · refine .inr ⟨fun i o ho hd => ?_, hv⟩
    cases hb : Nat.testBit (mk i) j with
    | true => rfl
    | false => exact absurd hd (hno i o (by rw [effL_get, ho]; simp [hb]))
end Go.Eng

set_option autoImplicit false
namespace Go.Eng
open Go Go.RowKit

open Classical in
noncomputable def restr (φ : Phi) (p : Nat → Prop) : Phi := fun id => if p id then φ id else none
theorem restr_some {φ : Phi} {p : Nat → Prop} {id : Nat} {x : Option Pl} (h : restr φ p id = some x) : p id ∧ φ id = some x := by
  unfold restr at h
  split at h
  · exact ⟨by assumption, h⟩
  · cases h
theorem restr_of {φ : Phi} {p : Nat → Prop} {id : Nat} (h : p id) : restr φ p id = φ id := if_pos h
theorem restr_not {φ : Phi} {p : Nat → Prop} {id : Nat} (h : ¬ p id) : restr φ p id = none := if_neg h
theorem restr_le {φ : Phi} {p q : Nat → Prop} (h : ∀ id, p id → q id) : PhiLe (restr φ p) (restr φ q) := fun id x e => by
  obtain ⟨h1, h2⟩ := restr_some e
  rw [restr_of (h id h1)]; exact h2
theorem restr_le' {φ : Phi} {p : Nat → Prop} : PhiLe (restr φ p) φ := fun _ _ e => (restr_some e).2
theorem restr_ge {φ φ0 : Phi} {p : Nat → Prop} {n : Nat} (h : ∀ id, id < n → φ id = φ0 id) (h0 : ∀ id, n ≤ id → φ0 id = none) (hp : ∀ id, id < n → p id) : PhiLe φ0 (restr φ p) := fun id x e => by
  by_cases hid : id < n
  · rw [restr_of (hp id hid), h id hid]; exact e
  · rw [h0 id (by omega)] at e; cases e

section
variable {P : Program} {tt : TT} {callF : FuncId → List AV → Mem → T (AV × Mem)} {N : NB} {n : Nat} {ds : List Deferred} {ops : Array Oper} {mk : Nat → Nat} {big : Nat} {M0 : Mem} {st0 : Tmps} {φ0 : Phi} {w0 : World} {m : Nat} {R : DR} {G : GS}

def ow (M0 : Mem) (big id : Nat) : Nat := (id - M0.next) / big
def domA (mk : Nat → Nat) (M0 : Mem) (big j id : Nat) : Prop := id < M0.next ∨ Nat.testBit (mk j) (ow M0 big id) = true
def domP (mk : Nat → Nat) (M0 : Mem) (big k id : Nat) : Prop := id < M0.next ∨ ow M0 big id = k ∨ Nat.testBit (mk k) (ow M0 big id) = true
def ownS (M0 : Mem) (big : Nat) (R : DR) (listed : Nat → Prop) (id : Nat) : Prop := (id < M0.next ∧ isOwn (M0.get id)) ∨ (M0.next ≤ id ∧ listed (ow M0 big id) ∧ isOwn ((R (ow M0 big id)).2.get id))

/-- What operation k laid itself. -/
def onlyM (M0 : Mem) (big k : Nat) (M : Mem) : Mem := ⟨M.next, M.lock, fun id => if M0.next ≤ id ∧ ow M0 big id = k then M.get id else .dead⟩
theorem onlyM_get {M0 M : Mem} {big k id : Nat} (h : M0.next ≤ id) (h2 : ow M0 big id = k) : (onlyM M0 big k M).get id = M.get id := if_pos ⟨h, h2⟩
theorem onlyM_own {M0 M : Mem} {big k id : Nat} (h : isOwn ((onlyM M0 big k M).get id)) : M0.next ≤ id ∧ ow M0 big id = k ∧ isOwn (M.get id) := by
  have h : isOwn (if M0.next ≤ id ∧ ow M0 big id = k then M.get id else .dead) := h
  split at h
  · rename_i h1; exact ⟨h1.1, h1.2, h⟩
  · exact h.elim
theorem Rep.only {N : NB} {φ : Phi} {M0 M : Mem} {big k : Nat} {w : World} (h : Rep N φ M w) : Rep N φ (onlyM M0 big k M) w := by
  refine ⟨fun id => ?_, fun id id' p p' h1 h2 => h.sep id id' p p' (onlyM_own h1).2.2 (onlyM_own h2).2.2, fun id p h1 => h.high id p (onlyM_own h1).2.2, fun id hid => ⟨?_, (h.fresh id hid).2⟩, h.size⟩
  · show ObjRel N φ w id (if M0.next ≤ id ∧ ow M0 big id = k then M.get id else .dead)
    split
    · exact h.objs id
    · exact h.glob
  · show (if M0.next ≤ id ∧ ow M0 big id = k then M.get id else .dead) = .dead
    split
    · exact (h.fresh id hid).1
    · rfl
/-- The stores to what is there, or is laid here. -/
structure GOk (mk : Nat → Nat) (big : Nat) (M0 : Mem) (φ0 : Phi) (w0 : World) (R : DR) (G : GS) : Prop where
  at' : ∀ k id off l, G k = some (id, off, l) → ∃ e rs cells, (memA M0 big R (mk k) k).get id = .own e rs cells ∧ off + l.length ≤ cells.length ∧
    (∀ y ∈ (cells.drop off).take l.length, y = .top) ∧ M0.lock ≤ id ∧ allLeaf l = true
  old : ∀ id, id < M0.next → isOwn (M0.get id) → ∃ p, φ0 id = some (some p) ∧ p.b < w0.heap.size
  dis : ∀ k k' id off l off' l', k < k' → G k = some (id, off', l') → G k' = some (id, off, l) → off + l.length ≤ off' ∨ off' + l'.length ≤ off

structure DInv (N : NB) (n : Nat) (ds : List Deferred) (ops : Array Oper) (mk : Nat → Nat) (big : Nat) (M0 : Mem) (st0 : Tmps) (φ0 : Phi) (w0 : World) (m : Nat) (R : DR) (G : GS) (listed : Nat → Prop) (φ : Phi) (w : World) (a : Act) : Prop where
  i1 : ∀ id, id < M0.next → φ id = φ0 id
  i2 : ∀ id, M0.next ≤ id → φ id ≠ none → listed (ow M0 big id)
  im : ∀ k, listed k → k < m
  ir : ∀ k, listed k → Rep N (restr φ (domP mk M0 big k)) (onlyM M0 big k (R k).2) w
  iv : ∀ k, listed k → ∀ o d, ops[k]? = some o → o.dst = some d → AVRel (restr φ (domP mk M0 big k)) (R k).1 (a.tmps.getD d undef)
  i4 : ∀ t, (∀ k o, listed k → ops[k]? = some o → o.dst ≠ some t) → AVRel φ0 (st0 t) (a.tmps.getD t undef)
  i5 : ∀ id id' p p', ownS M0 big R listed id → ownS M0 big R listed id' → φ id = some (some p) → φ id' = some (some p') → p.b = p'.b → id = id'
  i6 : Rep N φ0 M0 w
  keep : ∀ b, b < w0.heap.size → (∀ k id off l p, G k = some (id, off, l) → φ0 id = some (some p) → p.b ≠ b) → w.heap[b]? = w0.heap[b]?
  fs : ∀ k, listed k → ∀ id off l p, G k = some (id, off, l) → φ id = some (some p) → ∀ i y, l[i]? = some y → ∃ z, w.cell? ⟨p.b, off + i, none⟩ = some z ∧ AVRel (restr φ (domA mk M0 big k)) y z
  os : w.os = w0.os
  tape : w.tape = w0.tape
  output : w.output = w0.output
  wsize : w0.heap.size ≤ w.heap.size
  size : a.tmps.size = n
  defers : a.defers = ds
  i9 : ∀ id p, M0.next ≤ id → ownS M0 big R listed id → φ id = some (some p) → w0.heap.size ≤ p.b
  cl : ∀ k, listed k → ∀ i, Nat.testBit (mk k) i = true → listed i

theorem ow_lt {id j : Nat} (hbig : 0 < big) : ow M0 big id < j ↔ id < M0.next + j * big ∧ (M0.next ≤ id ∨ 0 < j) := by
  unfold ow
  rw [Nat.div_lt_iff_lt_mul hbig]
  constructor
  · intro h
    rcases Nat.eq_zero_or_pos j with e | e
    · subst e; simp at h
    · generalize j * big = x at *; omega
  · rintro ⟨h, hj⟩
    rcases Nat.lt_or_ge id M0.next with h' | h'
    · have : 0 < j * big := Nat.mul_pos (by omega) hbig
      generalize j * big = x at *; omega
    · generalize j * big = x at *; omega
theorem ow_eq_range {id j : Nat} (hbig : 0 < big) (h : M0.next ≤ id) : ow M0 big id = j ↔ M0.next + j * big ≤ id ∧ id < M0.next + (j + 1) * big := by
  unfold ow
  constructor
  · rintro rfl
    have h1 := Nat.div_mul_le_self (id - M0.next) big
    have h2 := Nat.lt_succ_iff.2 (Nat.le_refl ((id - M0.next) / big))
    have h3 := (Nat.div_lt_iff_lt_mul hbig).1 h2
    have : Nat.succ ((id - M0.next) / big) = (id - M0.next) / big + 1 := rfl
    rw [this] at h3
    omega
  · rintro ⟨h1, h2⟩
    have h3 : (id - M0.next) / big < j + 1 := (Nat.div_lt_iff_lt_mul hbig).2 (by omega)
    have h4 : j ≤ (id - M0.next) / big := (Nat.le_div_iff_mul_le hbig).2 (by omega)
    omega

theorem memA_get (anc j id : Nat) : (memA M0 big R anc j).get id = if id < M0.next then M0.get id else if Nat.testBit anc (ow M0 big id) = true then (R (ow M0 big id)).2.get id else .dead := by
  show bif2 (Nat.blt id M0.next) (M0.get id) (bif2 (Nat.testBit anc (ow M0 big id)) ((R (ow M0 big id)).2.get id) .dead) = _
  rw [bif2_eq, bif2_eq]
  by_cases h : id < M0.next
  · rw [if_pos h, if_pos (show Nat.blt id M0.next = true from Nat.ble_eq_true_of_le h)]
  · rw [if_neg h, if_neg (show ¬ Nat.blt id M0.next = true from fun e => h (Nat.le_of_ble_eq_true e))]
/-- What operation j is told is there. -/
theorem DInv.repA (hm : MaskOk ops.toList mk) (hbig : 0 < big) {listed : Nat → Prop} {φ : Phi} {w : World} {a : Act} (h : DInv N n ds ops mk big M0 st0 φ0 w0 m R G listed φ w a) {j : Nat} (hanc : ∀ i, Nat.testBit (mk j) i = true → listed i) :
    Rep N (restr φ (domA mk M0 big j)) (memA M0 big R (mk j) j) w := by
  have h0 : ∀ id, M0.next ≤ id → φ0 id = none := fun id hid => (h.i6.fresh id hid).2
  have toS : ∀ id, isOwn ((memA M0 big R (mk j) j).get id) → ownS M0 big R listed id := by
    intro id ho
    rw [memA_get] at ho
    split at ho
    · exact .inl ⟨by assumption, ho⟩
    · split at ho
      · rename_i h1 h2; exact .inr ⟨by omega, hanc _ h2, ho⟩
      · exact ho.elim
  refine ⟨fun id => ?_, fun id id' p p' ho ho' hp hp' e => ?_, fun id p ho hp => ?_, fun id hid => ?_, h.i6.size⟩
  · rw [memA_get]
    split
    · exact (h.i6.objs id).step (restr_ge h.i1 h0 fun id hid => .inl hid) (fun _ _ => rfl) (fun _ _ _ => rfl)
    · split
      · rename_i h1 h2
        have hob := (h.ir _ (hanc _ h2)).objs id
        rw [onlyM_get (by omega) rfl] at hob
        refine hob.step (restr_le fun id' hid' => ?_) (fun _ _ => rfl) (fun _ _ _ => rfl)
        rcases hid' with hid' | hid' | hid'
        · exact .inl hid'
        · right; rw [hid']; exact h2
        · right; exact hm.trans _ _ _ h2 hid'
      · exact h.i6.glob
  · exact h.i5 id id' p p' (toS id ho) (toS id' ho') (restr_some hp).2 (restr_some hp').2 e
  · have hp := (restr_some hp).2
    rw [memA_get] at ho
    split at ho
    · rename_i h1
      rw [h.i1 id h1] at hp
      exact h.i6.high id p ho hp
    · split at ho
      · rename_i h1 h2
        refine (h.ir _ (hanc _ h2)).high id p (by rw [onlyM_get (by omega) rfl]; exact ho) ?_
        rw [restr_of (.inr (.inl rfl))]; exact hp
      · exact ho.elim
  · have hid : M0.next + j * big ≤ id := hid
    have h1 : ¬ id < M0.next := by omega
    have h2 : ¬ Nat.testBit (mk j) (ow M0 big id) = true := by
      intro hb
      have := hm.lt _ _ hb
      rw [ow_lt hbig] at this
      omega
    refine ⟨by rw [memA_get, if_neg h1, if_neg h2], restr_not ?_⟩
    rintro (h3 | h3)
    · exact h1 h3
    · exact h2 h3

theorem DInv.tmpsA (hm : MaskOk ops.toList mk) (hd : dstsOk ops.toList = true) {listed : Nat → Prop} {φ : Phi} {w : World} {a : Act} (h : DInv N n ds ops mk big M0 st0 φ0 w0 m R G listed φ w a) {j : Nat} (hanc : ∀ i, Nat.testBit (mk j) i = true → listed i) (hnl : ¬ listed j) :
    TmpsRel (restr φ (domA mk M0 big j)) (stA R st0 (mk j) (effL mk j ops.toList 0) 0) a.tmps := by
  have h0 : ∀ id, M0.next ≤ id → φ0 id = none := fun id hid => (h.i6.fresh id hid).2
  intro t
  rcases stJ_spec (R := R) (st0 := st0) (anc := mk j) (mk := mk) (j := j) ops.toList t with ⟨i, o, ho, hdt, hv⟩ | ⟨hno, hv⟩
  · rw [hv]
    split
    · rename_i hb
      refine (h.iv i (hanc i hb) o t (by simpa using ho) hdt).mono (restr_le fun id' hid' => ?_)
      rcases hid' with hid' | hid' | hid'
      · exact .inl hid'
      · right; rw [hid']; exact hb
      · right; exact hm.trans _ _ _ hb hid'
    · exact .top _
  · rw [hv]
    exact (h.i4 t fun k o hk ho hot => hnl (h.cl k hk j (hno k o (by simpa using ho) hot))).mono (restr_ge h.i1 h0 fun id hid => .inl hid)

theorem own_lt {N : NB} {φ : Phi} {M : Mem} {w : World} (h : Rep N φ M w) {id : Nat} {p : Pl} (ho : isOwn (M.get id)) (hp : φ id = some (some p)) : p.b < w.heap.size := by
  have := h.objs id
  cases hg : M.get id with
  | dead => rw [hg] at ho; exact ho.elim
  | ro => rw [hg] at ho; exact ho.elim
  | own e rs cells => rw [hg] at this; obtain ⟨p', hp', _, _, h2, _⟩ := this; rw [hp] at hp'; cases hp'; exact h2.lt
  | vec e n cols => rw [hg] at this; obtain ⟨_, p', hp', _, _, h2, _⟩ := this; rw [hp] at hp'; cases hp'; exact h2.lt
  | map es cl => rw [hg] at this; obtain ⟨p', hp', _, h2⟩ := this; rw [hp] at hp'; cases hp'; exact (Array.getElem?_eq_some_iff.1 h2).1
theorem Rep.same {N : NB} {φ : Phi} {M : Mem} {w w' : World} (h : Rep N φ M w) (hk : ∀ b, b < w.heap.size → w'.heap[b]? = w.heap[b]?) (hs : w.heap.size ≤ w'.heap.size) : Rep N φ M w' :=
  ⟨fun id => (h.objs id).step (.refl _) (fun b hb => hk b (Nat.lt_of_lt_of_le hb h.size)) (fun ho p hp => hk _ (own_lt h ho hp)), h.sep, h.high, h.fresh, Nat.le_trans h.size hs⟩

theorem cell?_lt {w : World} {a : Addr} {z : Value} (h : w.cell? a = some z) : a.block < w.heap.size := by
  simp only [World.cell?] at h
  rcases Nat.lt_or_ge a.block w.heap.size with h1 | h1
  · exact h1
  · rw [Array.getElem?_eq_none h1] at h; simp at h
/-- Behind operation j. -/
theorem DInv.after (hm : MaskOk ops.toList mk) (hd : dstsOk ops.toList = true) (hbig : 0 < big) {listed : Nat → Prop} {φ : Phi} {w : World} {a : Act} (h : DInv N n ds ops mk big M0 st0 φ0 w0 m R G listed φ w a)
    {j : Nat} (hj : j < m) {o : Oper} (ho : ops[j]? = some o) (hdn : ∀ d, o.dst = some d → d < n) (hnl : ¬ listed j) (hanc : ∀ i, Nat.testBit (mk j) i = true → listed i) (hnext : (R j).2.next ≤ M0.next + (j + 1) * big) (gok : GOk mk big M0 φ0 w0 R G) (hGj : G j = none)
    {v : Value} {w' : World} (hg : Good N (restr φ (domA mk M0 big j)) (memA M0 big R (mk j) j) w (· = R j) v w') :
    ∃ φn, DInv N n ds ops mk big M0 st0 φ0 w0 m R G (fun k => listed k ∨ k = j) φn w' (a.put o.dst v) := by
  obtain ⟨φ', x, M', hq, hv, hr', he⟩ := hg
  have hq1 : (R j).1 = x := by rw [← hq]
  have hq2 : (R j).2 = M' := by rw [← hq]
  subst hq1 hq2
  have hA := h.repA hm hbig hanc
  have h0 : ∀ id, M0.next ≤ id → φ0 id = none := fun id hid => (h.i6.fresh id hid).2
  -- all blocks stay
  have hkeep : ∀ b, b < w.heap.size → w'.heap[b]? = w.heap[b]? := by
    intro b hb
    refine he.keep b hb ?_
    intro id p hl hown _ _
    have hl : M0.next + j * big ≤ id := hl
    rw [(hA.fresh id hl).1] at hown
    exact hown
  have hAnext : (memA M0 big R (mk j) j).next = M0.next + j * big := rfl
  let φn : Phi := fun id => if M0.next ≤ id ∧ ow M0 big id = j then φ' id else φ id
  have hn1 : ∀ id, M0.next ≤ id → ow M0 big id = j → φn id = φ' id := fun id h1 h2 => if_pos ⟨h1, h2⟩
  have hn2 : ∀ id, (id < M0.next ∨ ow M0 big id ≠ j) → φn id = φ id := fun id h1 => if_neg (by rintro ⟨h2, h3⟩; rcases h1 with h1 | h1 <;> omega)
  have hφ'lt : ∀ id, id < M0.next + j * big → φ' id = restr φ (domA mk M0 big j) id := fun id hid => he.phi0 id hid
  have hjj : Nat.testBit (mk j) j = false := by
    cases hb : Nat.testBit (mk j) j with
    | false => rfl
    | true => have := hm.lt _ _ hb; omega
  -- what operation j's part of the places is
  have hrj : restr φn (domP mk M0 big j) = φ' := by
    funext id
    by_cases h1 : id < M0.next
    · rw [restr_of (.inl h1), hn2 id (.inl h1), hφ'lt id (by omega), restr_of (.inl h1)]
    · by_cases h2 : ow M0 big id = j
      · rw [restr_of (.inr (.inl h2)), hn1 id (by omega) h2]
      · by_cases h3 : Nat.testBit (mk j) (ow M0 big id) = true
        · rw [restr_of (.inr (.inr h3)), hn2 id (.inr h2)]
          have hlt := hm.lt _ _ h3
          rw [ow_lt hbig] at hlt
          rw [hφ'lt id (by omega), restr_of (.inr h3)]
        · rw [restr_not (fun h4 => h4.elim h1 fun h4 => h4.elim h2 h3)]
          by_cases h4 : id < M0.next + j * big
          · rw [hφ'lt id h4, restr_not (fun h5 => h5.elim h1 h3)]
          · have h5 : M0.next + (j + 1) * big ≤ id := by
              rcases Nat.lt_or_ge id (M0.next + (j + 1) * big) with h6 | h6
              · exact absurd ((ow_eq_range hbig (by omega)).2 ⟨by omega, h6⟩) h2
              · exact h6
            exact ((hr'.fresh id (Nat.le_trans hnext h5)).2).symm
  have hrk : ∀ k, listed k → restr φn (domP mk M0 big k) = restr φ (domP mk M0 big k) := by
    intro k hk
    funext id
    by_cases hp : domP mk M0 big k id
    · rw [restr_of hp, restr_of hp]
      refine hn2 id ?_
      rcases hp with hp | hp | hp
      · exact .inl hp
      · right; rw [hp]; intro e; subst e; exact hnl hk
      · right; intro e; rw [e] at hp; exact hnl (h.cl k hk j hp)
    · rw [restr_not hp, restr_not hp]
  have hownj : ∀ id p, M0.next ≤ id → ow M0 big id = j → isOwn ((R j).2.get id) → φ' id = some (some p) → w.heap.size ≤ p.b := by
    intro id p h1 h2 h3 h4
    rcases Nat.lt_or_ge p.b w.heap.size with h5 | h5
    · obtain ⟨id', p', h6, _, _, h7⟩ := he.old id p h3 h4 h5
      have := (ow_eq_range hbig h1).1 h2
      have h8 : M0.next + j * big ≤ id' := h7 this.1
      rw [(hA.fresh id' h8).1] at h6
      exact h6.elim
    · exact h5
  have hownk : ∀ id p, ownS M0 big R listed id → φ id = some (some p) → p.b < w.heap.size := by
    intro id p h1 h2
    rcases h1 with ⟨h1, h3⟩ | ⟨h1, h3, h4⟩
    · rw [h.i1 id h1] at h2; exact own_lt h.i6 h3 h2
    · refine own_lt (id := id) (h.ir _ h3) (by rw [onlyM_get h1 rfl]; exact h4) ?_
      rw [restr_of (.inr (.inl rfl))]; exact h2
  have hcase : ∀ id, ownS M0 big R (fun k => listed k ∨ k = j) id → (ownS M0 big R listed id ∧ (id < M0.next ∨ ow M0 big id ≠ j)) ∨ (M0.next ≤ id ∧ ow M0 big id = j ∧ isOwn ((R j).2.get id)) := by
    intro id hid
    rcases hid with ⟨h1, h2⟩ | ⟨h1, h2, h3⟩
    · exact .inl ⟨.inl ⟨h1, h2⟩, .inl h1⟩
    · by_cases e : ow M0 big id = j
      · right; refine ⟨h1, e, ?_⟩; rw [e] at h3; exact h3
      · rcases h2 with h2 | h2
        · exact .inl ⟨.inr ⟨h1, h2, h3⟩, .inr e⟩
        · exact absurd h2 e
  refine ⟨φn, fun id hid => by rw [hn2 id (.inl hid)]; exact h.i1 id hid, fun id hid hne => ?_, fun k hk => ?_, fun k hk => ?_, fun k hk o' d ho' hd' => ?_, fun t ht => ?_, fun id id' p p' ho1 ho2 hp hp' e => ?_, h.i6.same hkeep he.size,
    fun b hb hno => (hkeep b (Nat.lt_of_lt_of_le hb h.wsize)).trans (h.keep b hb hno), fun k hk id off l p hG hp i y hy => ?_, he.os.trans h.os, he.tape.trans h.tape, he.output.trans h.output, Nat.le_trans h.wsize he.size, (put_size ..).trans h.size, (put_defers ..).trans h.defers, fun id p hid ho1 hp => ?_, fun k hk i hi => ?_⟩
  · by_cases e : ow M0 big id = j
    · exact .inr e
    · rw [hn2 id (.inr e)] at hne; exact .inl (h.i2 id hid hne)
  · rcases hk with hk | rfl
    · exact h.im k hk
    · exact hj
  · rcases hk with hk | rfl
    · rw [hrk k hk]; exact (h.ir k hk).same hkeep he.size
    · rw [hrj]; exact hr'.only
  · rcases hk with hk | rfl
    · rw [hrk k hk]
      have hne : k ≠ j := fun e => hnl (e ▸ hk)
      have := h.iv k hk o' d ho' hd'
      have hsame : (a.put o.dst v).tmps.getD d undef = a.tmps.getD d undef := by
        cases hod : o.dst with
        | none => rfl
        | some d2 =>
          have : d2 ≠ d := by
            intro e; subst e
            exact hne (dstsOk_ne hd k j o' o d2 (by simpa using ho') (by simpa using ho) hd' hod)
          simp only [Act.put, Array.getD_eq_getD_getElem?, Array.getElem?_setIfInBounds, if_neg this]
      rw [hsame]; exact this
    · rw [hrj]
      rw [ho] at ho'; cases ho'
      have hlt : d < a.tmps.size := by rw [h.size]; exact hdn d hd'
      have : (a.put o.dst v).tmps.getD d undef = v := by rw [hd']; simp [Act.put, hlt]
      rw [this]; exact hv
  · have hsame : (a.put o.dst v).tmps.getD t undef = a.tmps.getD t undef := by
      have hne := ht j o (.inr rfl) ho
      cases hod : o.dst with
      | none => rfl
      | some d2 =>
        have : d2 ≠ t := fun e => hne (by rw [hod, e])
        simp only [Act.put, Array.getD_eq_getD_getElem?, Array.getElem?_setIfInBounds, if_neg this]
    rw [hsame]
    exact h.i4 t fun k o hk ho => ht k o (.inl hk) ho
  · rcases hcase id ho1 with ⟨h1, h2⟩ | ⟨h1, h2, h3⟩ <;> rcases hcase id' ho2 with ⟨h4, h5⟩ | ⟨h4, h5, h6⟩
    · rw [hn2 id h2] at hp; rw [hn2 id' h5] at hp'
      exact h.i5 id id' p p' h1 h4 hp hp' e
    · rw [hn2 id h2] at hp; rw [hn1 id' h4 h5] at hp'
      have k1 := hownk id p h1 hp
      have k2 := hownj id' p' h4 h5 h6 hp'
      omega
    · rw [hn1 id h1 h2] at hp; rw [hn2 id' h5] at hp'
      have k1 := hownk id' p' h4 hp'
      have k2 := hownj id p h1 h2 h3 hp
      omega
    · rw [hn1 id h1 h2] at hp; rw [hn1 id' h4 h5] at hp'
      exact hr'.sep id id' p p' h3 h6 hp hp' e
  · rcases hk with hk | rfl
    · have hpk : φn id = φ id := by
        refine hn2 id ?_
        obtain ⟨e', rs', cells', g1, _⟩ := gok.at' k id off l hG
        rw [memA_get] at g1
        split at g1
        · left; assumption
        · split at g1
          · rename_i hb
            right; intro e; rw [e] at hb; exact hnl (h.cl k hk j hb)
          · cases g1
      rw [hpk] at hp
      obtain ⟨z, hz, hzr⟩ := h.fs k hk id off l p hG hp i y hy
      have hpb : p.b < w.heap.size := by
        have : (w.cell? ⟨p.b, off + i, none⟩).isSome = true := by rw [hz]; rfl
        exact (cell?_lt hz)
      refine ⟨z, by simp only [World.cell?, hkeep p.b hpb]; exact hz, ?_⟩
      have e : restr φn (domA mk M0 big k) = restr φ (domA mk M0 big k) := by
        funext id
        by_cases hp : domA mk M0 big k id
        · rw [restr_of hp, restr_of hp]
          refine hn2 id ?_
          rcases hp with hp | hp
          · exact .inl hp
          · right; intro e; rw [e] at hp; exact hnl (h.cl k hk j hp)
        · rw [restr_not hp, restr_not hp]
      rw [e]; exact hzr
    · rw [hGj] at hG; cases hG
  · rcases hcase id ho1 with ⟨h1, h2⟩ | ⟨h1, h2, h3⟩
    · rw [hn2 id h2] at hp; exact h.i9 id p hid h1 hp
    · rw [hn1 id h1 h2] at hp
      exact Nat.le_trans h.wsize (hownj id p h1 h2 h3 hp)
  · rcases hk with hk | rfl
    · exact .inl (h.cl k hk i hi)
    · exact .inl (hanc i hi)
end
end Go.Eng

set_option autoImplicit false
namespace Go.Eng
open Go Go.RowKit
theorem forceN_eq {R : Type} (n : Nat) (k : Nat → R) : forceN n k = k n := by cases n <;> rfl
theorem masksK_eq {β : Type} (l : List Oper) : ∀ (j : Nat) (mk : Nat → Nat) (k : (Nat → Nat) → T β), masksK l j mk k = k (masks l j mk) := by
  induction l with
  | nil => intro j mk k; rfl
  | cons o l ih =>
    intro j mk k
    show (forceN (ancOf mk o.after.toList) fun m => masksK l (j + 1) (upd mk j m) k) = _
    rw [forceN_eq, ih]; rfl

theorem lateV_spec {all : List Oper} {mk : Nat → Nat} {F : Nat → Bool} {m i : Nat} (l : List Oper) : ∀ {u : Nat} (_ : lateV all mk F m i l u = true) {k : Nat} {o : Oper} (_ : l[k]? = some o) (_ : u + k < i),
    Nat.testBit (mk i) (u + k) = true ∨ (u + k < m ∧ pv0 all (u + k) o = true ∧ F (u + k) = true) := by
  induction l with
  | nil => intro u _ k o h; simp at h
  | cons p l ih =>
    intro u h k o hk hlt
    have h : bif2 (Nat.blt u i) (bif2 (Nat.testBit (mk i) u) (lateV all mk F m i l (u + 1)) (bif2 (Nat.blt u m && (pv0 all u p && F u)) (lateV all mk F m i l (u + 1)) false)) true = true := h
    have hui : Nat.blt u i = true := (by have : u < i := by omega
                                         simpa [Nat.blt_eq] using this)
    rw [bif2_eq, if_pos hui, bif2_eq] at h
    have step : lateV all mk F m i l (u + 1) = true → 0 < k → Nat.testBit (mk i) (u + k) = true ∨ (u + k < m ∧ pv0 all (u + k) o = true ∧ F (u + k) = true) := by
      intro h h0
      obtain ⟨k, rfl⟩ : ∃ q, k = q + 1 := ⟨k - 1, by omega⟩
      have := ih h (k := k) (o := o) (by simpa using hk) (by omega)
      rwa [show u + 1 + k = u + (k + 1) by omega] at this
    split at h
    · rename_i hb
      rcases Nat.eq_zero_or_pos k with e | e
      · subst e; exact .inl hb
      · exact step h e
    · rw [bif2_eq] at h
      split at h
      · rename_i hb
        rcases Nat.eq_zero_or_pos k with e | e
        · subst e
          have hp : p = o := by simpa using hk
          subst hp
          obtain ⟨h1, h2⟩ := Bool.and_eq_true_iff.1 hb
          obtain ⟨h2, h3⟩ := Bool.and_eq_true_iff.1 h2
          exact .inr ⟨by simpa [Nat.blt_eq] using h1, h2, h3⟩
        · exact step h e
      · cases h
theorem lateAll_spec {all : List Oper} {mk : Nat → Nat} {F : Nat → Bool} {m : Nat} (l : List Oper) : ∀ {i : Nat} (_ : lateAll all mk F m l i = true) {k : Nat} (_ : k < l.length), lateV all mk F m (i + k) all 0 = true := by
  induction l with
  | nil => intro i _ k h; simp at h
  | cons p l ih =>
    intro i h k hk
    have h : bif2 (lateV all mk F m i all 0) (lateAll all mk F m l (i + 1)) false = true := h
    rw [bif2_eq] at h
    split at h
    · rename_i hb
      rcases Nat.eq_zero_or_pos k with e | e
      · subst e; exact hb
      · obtain ⟨k, rfl⟩ : ∃ q, k = q + 1 := ⟨k - 1, by omega⟩
        have := ih h (k := k) (by simpa using hk)
        rwa [show i + 1 + k = i + (k + 1) by omega] at this
    · cases h

theorem unl_step (l : List Nat) (hn : l.Nodup) (f g : Nat → Bool) (i : Nat) (hi : i ∈ l) (hf : f i = true) (hg : g i = false) (he : ∀ k, k ≠ i → g k = f k) : (l.filter g).length + 1 = (l.filter f).length := by
  induction l with
  | nil => cases hi
  | cons x l ih =>
    rw [List.nodup_cons] at hn
    rcases List.mem_cons.1 hi with rfl | hi
    · have : l.filter g = l.filter f := List.filter_congr fun k hk => he k fun e => hn.1 (e ▸ hk)
      rw [List.filter_cons, List.filter_cons, hf, hg, this]; simp
    · have hx : x ≠ i := fun e => hn.1 (e ▸ hi)
      rw [List.filter_cons, List.filter_cons, he x hx]
      cases f x <;> simp [ih hn.2 hi]
def unl (n : Nat) (listed : Array Bool) : Nat := ((List.range n).filter fun k => !listed.getD k true).length
theorem unl_set {n : Nat} {listed : Array Bool} {i : Nat} (hi : i < n) (hs : listed.size = n) (h : listed.getD i true = false) : unl n (listed.setIfInBounds i true) + 1 = unl n listed := by
  unfold unl
  refine unl_step _ List.nodup_range _ _ i (by simpa using hi) (by simp [h]) ?_ fun k hk => ?_
  · simp [hs, hi]
  · rw [getD_set_ne true (Ne.symm hk)]
theorem unl_zero {n : Nat} {listed : Array Bool} (h : unl n listed = 0) : ∀ k, k < n → listed.getD k true = true := by
  intro k hk
  cases hb : listed.getD k true with
  | true => rfl
  | false =>
    have hm : k ∈ (List.range n).filter fun k => !listed.getD k true := List.mem_filter.2 ⟨by simpa using hk, by simp only [hb]; rfl⟩
    have := List.length_pos_of_mem hm
    unfold unl at h; omega
theorem getD_tf {listed : Array Bool} {k n : Nat} (hs : listed.size = n) (hk : k < n) : listed.getD k true = listed.getD k false := by
  simp only [Array.getD_eq_getD_getElem?]
  rw [Array.getElem?_eq_getElem (by omega)]; rfl
theorem getD_out {listed : Array Bool} {k n : Nat} (hs : listed.size = n) (hk : n ≤ k) : listed.getD k false = false := by
  simp only [Array.getD_eq_getD_getElem?]
  rw [Array.getElem?_eq_none (by omega)]; rfl
theorem unl_init (n : Nat) : unl n (Array.replicate n false) = n := by
  unfold unl
  have : ((List.range n).filter fun k => !(Array.replicate n false).getD k true) = List.range n := by
    refine List.filter_eq_self.2 fun k hk => ?_
    have hk : k < n := by simpa using hk
    simp [Array.getD_eq_getD_getElem?, hk]
  rw [this]; simp

section
variable {P : Program} {tt : TT} {callF : FuncId → List AV → Mem → T (AV × Mem)} {N : NB} {n : Nat} {ds : List Deferred} {ops : Array Oper} {mk : Nat → Nat} {big : Nat} {M0 : Mem} {st0 : Tmps} {φ0 : Phi} {w0 : World} {m : Nat} {R : DR} {G : GS}

theorem setAt_spec (ps : List AV) : ∀ (l : List AV) (off i : Nat) (a : AV), (setAt ps l off)[i]? = some a → (off ≤ i ∧ ps[i - off]? = some a) ∨ l[i]? = some a := by
  induction ps with
  | nil => intro l off i a h; exact .inr h
  | cons x ps ih =>
    intro l off i a h
    have h : (setAt ps (l.set off x) (off + 1))[i]? = some a := h
    rcases ih _ _ _ _ h with ⟨h1, h2⟩ | h1
    · refine .inl ⟨by omega, ?_⟩
      rw [show i - off = (i - (off + 1)) + 1 by omega, List.getElem?_cons_succ]; exact h2
    · by_cases e : i = off
      · subst e
        rw [List.getElem?_set] at h1
        simp only [if_true] at h1
        split at h1
        · exact .inl ⟨Nat.le_refl _, by simpa using h1⟩
        · cases h1
      · rw [List.getElem?_set_ne (Ne.symm e)] at h1; exact .inr h1
theorem setAt_len (ps : List AV) : ∀ (l : List AV) (off : Nat), (setAt ps l off).length = l.length := by
  induction ps with
  | nil => intro l off; rfl
  | cons x ps ih =>
    intro l off
    show (setAt ps (l.set off x) (off + 1)).length = _
    rw [ih]; simp
theorem putO_own {l : List AV} {off : Nat} {o : AObj} : isOwn (putO l off o) ↔ isOwn o := by cases o <;> exact Iff.rfl
theorem finO_own {G : GS} {m id : Nat} {o : AObj} : isOwn (finO G m id o) ↔ isOwn o := by
  induction m with
  | zero => exact Iff.rfl
  | succ k ih =>
    show isOwn (@Option.rec (Nat × Nat × List AV) (fun _ => AObj) (finO G k id o) (fun g => bif2 (Nat.beq g.1 id) (putO g.2.2 g.2.1 (finO G k id o)) (finO G k id o)) (G k)) ↔ _
    cases G k with
    | none => exact ih
    | some g =>
      show isOwn (bif2 (Nat.beq g.1 id) (putO g.2.2 g.2.1 (finO G k id o)) (finO G k id o)) ↔ _
      rw [bif2_eq]
      split
      · rw [putO_own]; exact ih
      · exact ih
theorem finO_cells {G : GS} {id : Nat} {e : TypeId} {rs : Nat} {cells : List AV} : ∀ (m : Nat), ∃ cells', finO G m id (.own e rs cells) = .own e rs cells' ∧ cells'.length = cells.length ∧
    ∀ i a, cells'[i]? = some a → (∃ k off l, k < m ∧ G k = some (id, off, l) ∧ off ≤ i ∧ l[i - off]? = some a) ∨ cells[i]? = some a := by
  intro m
  induction m with
  | zero => exact ⟨cells, rfl, rfl, fun i a h => .inr h⟩
  | succ k ih =>
    obtain ⟨c1, h1, h2, h3⟩ := ih
    have hs : finO G (k + 1) id (.own e rs cells) = @Option.rec (Nat × Nat × List AV) (fun _ => AObj) (finO G k id (.own e rs cells)) (fun g => bif2 (Nat.beq g.1 id) (putO g.2.2 g.2.1 (finO G k id (.own e rs cells))) (finO G k id (.own e rs cells))) (G k) := rfl
    rw [h1] at hs
    have keep : ∀ i a, c1[i]? = some a → (∃ k' off l, k' < k + 1 ∧ G k' = some (id, off, l) ∧ off ≤ i ∧ l[i - off]? = some a) ∨ cells[i]? = some a := fun i a h => by
      rcases h3 i a h with ⟨k', off, l, h4, h5⟩ | h4
      · exact .inl ⟨k', off, l, by omega, h5⟩
      · exact .inr h4
    cases hg : G k with
    | none => rw [hg] at hs; exact ⟨c1, hs, h2, keep⟩
    | some g =>
      obtain ⟨id', off, l⟩ := g
      rw [hg] at hs
      have hs : finO G (k + 1) id (.own e rs cells) = bif2 (Nat.beq id' id) (.own e rs (setAt l c1 off)) (.own e rs c1) := hs
      rw [bif2_eq] at hs
      split at hs
      · rename_i he
        have he := Nat.eq_of_beq_eq_true he
        subst he
        refine ⟨_, hs, by rw [setAt_len, h2], fun i a h => ?_⟩
        rcases setAt_spec _ _ _ _ _ h with ⟨h5, h6⟩ | h5
        · exact .inl ⟨k, off, l, by omega, hg, h5, h6⟩
        · exact keep i a h5
      · exact ⟨c1, hs, h2, keep⟩
theorem finO_other {G : GS} {id m : Nat} {o : AObj} (h : ¬ isOwn o ∨ (∃ e n c, o = .vec e n c) ∨ ∃ a b, o = .map a b) : finO G m id o = o := by
  induction m with
  | zero => rfl
  | succ k ih =>
    have hs : finO G (k + 1) id o = @Option.rec (Nat × Nat × List AV) (fun _ => AObj) (finO G k id o) (fun g => bif2 (Nat.beq g.1 id) (putO g.2.2 g.2.1 (finO G k id o)) (finO G k id o)) (G k) := rfl
    rw [ih] at hs
    rw [hs]
    cases G k with
    | none => rfl
    | some g =>
      show bif2 (Nat.beq g.1 id) (putO g.2.2 g.2.1 o) o = o
      rw [bif2_eq]
      split
      · rcases h with h | ⟨e, n, c, rfl⟩ | ⟨a, b, rfl⟩
        · cases o <;> first | rfl | exact absurd trivial h
        · rfl
        · rfl
      · rfl
theorem anyG_false {G : GS} : ∀ (m : Nat), anyG G m = false → ∀ k, k < m → G k = none := by
  intro m
  induction m with
  | zero => intro _ k hk; omega
  | succ j ih =>
    intro h k hk
    have h : @Option.rec (Nat × Nat × List AV) (fun _ => Bool) (anyG G j) (fun _ => true) (G j) = false := h
    cases hg : G j with
    | none =>
      rw [hg] at h
      rcases Nat.lt_or_ge k j with h1 | h1
      · exact ih h k h1
      · obtain rfl : k = j := by omega
        exact hg
    | some g => rw [hg] at h; cases h
theorem finO_none {G : GS} {id : Nat} {o : AObj} : ∀ (m : Nat), (∀ k, k < m → G k = none) → finO G m id o = o := by
  intro m
  induction m with
  | zero => intro _; rfl
  | succ j ih =>
    intro h
    have hs : finO G (j + 1) id o = @Option.rec (Nat × Nat × List AV) (fun _ => AObj) (finO G j id o) (fun g => bif2 (Nat.beq g.1 id) (putO g.2.2 g.2.1 (finO G j id o)) (finO G j id o)) (G j) := rfl
    rw [hs, h j (by omega)]
    exact ih fun k hk => h k (by omega)
/-- The memory behind the first part. -/
noncomputable def memF (M0 : Mem) (big m : Nat) (R : DR) (G : GS) : Mem := ⟨M0.next + m * big, M0.lock, bif2 (anyG G m) (fun id => finO G m id ((memA M0 big R (Nat.sub (Nat.pow 2 m) 1) 0).get id)) (memA M0 big R (Nat.sub (Nat.pow 2 m) 1) 0).get⟩
/-- What is there behind the first part, but for the stores. -/
noncomputable def obj1 (M0 : Mem) (big m : Nat) (R : DR) (id : Nat) : AObj := if id < M0.next then M0.get id else if ow M0 big id < m then (R (ow M0 big id)).2.get id else .dead
theorem memF_get {id : Nat} : (memF M0 big m R G).get id = finO G m id (obj1 M0 big m R id) := by
  have hbit : ∀ k, Nat.testBit (Nat.sub (Nat.pow 2 m) 1) k = true ↔ k < m := by
    intro k
    show Nat.testBit (2 ^ m - 1) k = true ↔ _
    rw [Nat.testBit_two_pow_sub_one]; simp
  have hA : (memA M0 big R (Nat.sub (Nat.pow 2 m) 1) 0).get id = obj1 M0 big m R id := by
    rw [memA_get]
    unfold obj1
    by_cases h1 : id < M0.next
    · rw [if_pos h1, if_pos h1]
    · rw [if_neg h1, if_neg h1]
      by_cases h2 : ow M0 big id < m
      · rw [if_pos h2, if_pos ((hbit _).2 h2)]
      · rw [if_neg h2, if_neg (fun e => h2 ((hbit _).1 e))]
  show (bif2 (anyG G m) (fun id => finO G m id ((memA M0 big R (Nat.sub (Nat.pow 2 m) 1) 0).get id)) (memA M0 big R (Nat.sub (Nat.pow 2 m) 1) 0).get) id = _
  rw [bif2_eq]
  split
  · show finO G m id ((memA M0 big R (Nat.sub (Nat.pow 2 m) 1) 0).get id) = _
    rw [hA]
  · rename_i h
    have h : anyG G m = false := by cases hh : anyG G m with | false => rfl | true => exact absurd hh h
    rw [hA, finO_none m (anyG_false m h)]

/-- The first part is done. -/
theorem DInv.finish (hbig : 0 < big) (gok : GOk mk big M0 φ0 w0 R G) {listed : Nat → Prop} {φ : Phi} {w : World} {a : Act} (h : DInv N n ds ops mk big M0 st0 φ0 w0 m R G listed φ w a) (hl : ∀ k, k < m → listed k) :
    StOk N n ds φ (memF M0 big m R G) w (stA R st0 (Nat.sub (Nat.pow 2 m) 1) (ops.toList.take m) 0) a ∧
      Ext φ0 M0 w0 φ (memF M0 big m R G) w := by
  have hbit : ∀ k, Nat.testBit (Nat.sub (Nat.pow 2 m) 1) k = true ↔ k < m := by
    intro k
    show Nat.testBit (2 ^ m - 1) k = true ↔ _
    rw [Nat.testBit_two_pow_sub_one]; simp
  have h0 : ∀ id, M0.next ≤ id → φ0 id = none := fun id hid => (h.i6.fresh id hid).2
  have hle : PhiLe φ0 φ := fun id x e => by
    rcases Nat.lt_or_ge id M0.next with h1 | h1
    · rw [h.i1 id h1]; exact e
    · rw [h0 id h1] at e; cases e
  have hobj : ∀ id, ObjRel N φ w id (obj1 M0 big m R id) := fun id => by
    unfold obj1
    split
    · exact (h.i6.objs id).step hle (fun _ _ => rfl) (fun _ _ _ => rfl)
    · split
      · rename_i h1 h2
        have hob := (h.ir _ (hl _ h2)).objs id
        rw [onlyM_get (by omega) rfl] at hob
        exact hob.step restr_le' (fun _ _ => rfl) (fun _ _ _ => rfl)
      · exact h.i6.glob
  have toS : ∀ id, isOwn ((memF M0 big m R G).get id) → ownS M0 big R listed id := by
    intro id ho
    rw [memF_get, finO_own] at ho
    unfold obj1 at ho
    split at ho
    · exact .inl ⟨by assumption, ho⟩
    · split at ho
      · rename_i h1 h2; exact .inr ⟨by omega, hl _ h2, ho⟩
      · exact ho.elim
  refine ⟨⟨⟨fun id => ?_, fun id id' p p' ho ho' hp hp' e => h.i5 id id' p p' (toS id ho) (toS id' ho') hp hp' e, fun id p ho hp => ?_, fun id hid => ?_, h.i6.size⟩, fun t => ?_, h.size, h.defers⟩,
    ⟨hle, h.i1, (by show M0.next ≤ M0.next + m * big; omega), rfl, h.os, h.tape, h.output, h.wsize, fun b hb hno => h.keep b hb fun k id off l p hG hp => ?_, fun id p ho hp hb => ?_⟩⟩
  · rw [memF_get]
    have hob := hobj id
    by_cases hcase : ¬ isOwn (obj1 M0 big m R id) ∨ (∃ e n c, obj1 M0 big m R id = .vec e n c) ∨ ∃ a b, obj1 M0 big m R id = .map a b
    · rw [finO_other hcase]
      exact hob
    · cases hg : obj1 M0 big m R id with
      | own e rs cells =>
        rw [hg] at hob
        obtain ⟨p, hp, h1, h2, h3, h4, h5⟩ := hob
        obtain ⟨c', e1, e2, e3⟩ := finO_cells (G := G) (id := id) (e := e) (rs := rs) (cells := cells) m
        rw [e1]
        refine ⟨p, hp, h1, h2, h3, by rw [e2]; exact h4, fun j x hx => ?_⟩
        rcases e3 j x hx with ⟨k, off, l, k1, k2, k3, k4⟩ | k1
        · obtain ⟨z, hz, hzr⟩ := h.fs k (hl k k1) id off l p k2 hp (j - off) x k4
          rw [show off + (j - off) = j by omega] at hz
          exact ⟨z, hz, hzr.mono restr_le'⟩
        · exact h5 j x k1
      | dead => exact absurd (.inl (by rw [hg]; exact fun h => h)) hcase
      | ro a b c => exact absurd (.inl (by rw [hg]; exact fun h => h)) hcase
      | vec a b c => exact absurd (.inr (.inl ⟨a, b, c, hg⟩)) hcase
      | map a b => exact absurd (.inr (.inr ⟨a, b, hg⟩)) hcase
  · have hs := toS id ho
    rcases hs with ⟨h1, h2⟩ | ⟨h1, h2, h3⟩
    · rw [h.i1 id h1] at hp; exact h.i6.high id p h2 hp
    · refine (h.ir _ h2).high id p (by rw [onlyM_get h1 rfl]; exact h3) ?_
      rw [restr_of (.inr (.inl rfl))]; exact hp
  · have hid : M0.next + m * big ≤ id := hid
    have h1 : ¬ id < M0.next := by omega
    have h2 : ¬ ow M0 big id < m := by
      intro hlt
      rw [ow_lt hbig] at hlt
      omega
    refine ⟨?_, ?_⟩
    · have : obj1 M0 big m R id = .dead := by unfold obj1; rw [if_neg h1, if_neg h2]
      rw [memF_get, this]
      exact finO_other (.inl fun h => h)
    · cases hφ : φ id with
      | none => rfl
      | some x => exact absurd (h.im _ (h.i2 id (by omega) (by rw [hφ]; simp))) h2
  · rcases stA_spec (R := R) (st0 := st0) (anc := Nat.sub (Nat.pow 2 m) 1) (ops.toList.take m) 0 t with ⟨i, o, ho, hdt, hv⟩ | ⟨hno, hv⟩
    · rw [hv]
      rw [List.getElem?_take] at ho
      split at ho
      · rename_i him
        rw [if_pos (by rw [Nat.zero_add]; exact (hbit i).2 him), Nat.zero_add]
        exact (h.iv i (hl i him) o t (by simpa using ho) hdt).mono restr_le'
      · cases ho
    · rw [hv]
      refine (h.i4 t fun k o hk ho => hno k o ?_).mono hle
      rw [List.getElem?_take, if_pos (h.im k hk)]
      simpa using ho
  · obtain ⟨e, rs, cells, k2, _, _, k4, _⟩ := gok.at' k id off l hG
    have hid : id < M0.next := by
      rcases Nat.lt_or_ge id M0.next with h1 | h1
      · exact h1
      · rw [h0 id h1] at hp; cases hp
    rw [memA_get, if_pos hid] at k2
    exact hno id p k4 (by rw [k2]; trivial) hp
  · rcases toS id ho with ⟨h1, h2⟩ | ⟨h1, h2, h3⟩
    · exact ⟨id, p, h2, by rw [← h.i1 id h1]; exact hp, rfl, fun h => h⟩
    · have := h.i9 id p h1 (.inr ⟨h1, h2, h3⟩) hp
      omega

theorem Rep.blocks {N : NB} {φ : Phi} {M : Mem} {w w' : World} (h : Rep N φ M w) (hk : ∀ b, b < N.n → w'.heap[b]? = w.heap[b]?) (ho : ∀ id p, isOwn (M.get id) → φ id = some (some p) → w'.heap[p.b]? = w.heap[p.b]?) (hs : w.heap.size ≤ w'.heap.size) : Rep N φ M w' :=
  ⟨fun id => (h.objs id).step (.refl _) (fun b hb => hk b hb) (fun hw p hp => ho id p hw hp), h.sep, h.high, h.fresh, Nat.le_trans h.size hs⟩
/-- An object some of whose cells are written that nobody is told of. -/
theorem ObjRel.poke {N : NB} {φ : Phi} {w w' : World} {id : Nat} {e : TypeId} {rs off len : Nat} {cells : List AV} {p : Pl} (h : ObjRel N φ w id (.own e rs cells)) (hp : φ id = some (some p)) (hown : ∀ e n, OwnBlock w p.b e n → OwnBlock w' p.b e n)
    (htop : ∀ y ∈ (cells.drop off).take len, y = .top) (hin : ∀ i, i < len → ∃ z, w'.cell? ⟨p.b, off + i, none⟩ = some z) (hout : ∀ i, (i < off ∨ off + len ≤ i) → w'.cell? ⟨p.b, i, none⟩ = w.cell? ⟨p.b, i, none⟩) : ObjRel N φ w' id (.own e rs cells) := by
  obtain ⟨p1, hp1, r1, r2, r3, r4, r5⟩ := h
  rw [hp] at hp1; cases hp1
  refine ⟨p, hp, r1, r2, hown _ _ r3, r4, fun jx x hx => ?_⟩
  by_cases hr : jx < off ∨ off + len ≤ jx
  · rw [hout jx hr]; exact r5 jx x hx
  · have hlt : jx - off < len := by omega
    have hxt : x = .top := by
      refine htop x (List.mem_of_getElem? (i := jx - off) ?_)
      rw [List.getElem?_take, if_pos hlt, List.getElem?_drop, show off + (jx - off) = jx by omega]; exact hx
    obtain ⟨z, hz⟩ := hin (jx - off) hlt
    rw [show off + (jx - off) = jx by omega] at hz
    exact ⟨z, hz, by rw [hxt]; exact .top _⟩
/-- Behind a store to what is there. -/
theorem DInv.afterS (hm : MaskOk ops.toList mk) (hbig : 0 < big) (gok : GOk mk big M0 φ0 w0 R G) {listed : Nat → Prop} {φ : Phi} {w : World} {a : Act} (h : DInv N n ds ops mk big M0 st0 φ0 w0 m R G listed φ w a)
    {j : Nat} (hj : j < m) {o : Oper} (ho : ops[j]? = some o) (hdst : o.dst = none) (hnl : ¬ listed j) (hanc : ∀ i, Nat.testBit (mk j) i = true → listed i) (hRj : R j = (.v undef, memA M0 big R (mk j) j))
    {id off : Nat} {l : List AV} (hG : G j = some (id, off, l)) {p : Pl} (hp : φ id = some (some p)) {w' : World} (hother : ∀ b, b ≠ p.b → w'.heap[b]? = w.heap[b]?) (hown : ∀ e n, OwnBlock w p.b e n → OwnBlock w' p.b e n)
    (hin : ∀ i y, l[i]? = some y → ∃ z, w'.cell? ⟨p.b, off + i, none⟩ = some z ∧ AVRel (restr φ (domA mk M0 big j)) y z) (hout : ∀ i, (i < off ∨ off + l.length ≤ i) → w'.cell? ⟨p.b, i, none⟩ = w.cell? ⟨p.b, i, none⟩)
    (e1 : w'.os = w.os) (e2 : w'.tape = w.tape) (e3 : w'.output = w.output) (e4 : w'.heap.size = w.heap.size) :
    DInv N n ds ops mk big M0 st0 φ0 w0 m R G (fun k => listed k ∨ k = j) φ w' (a.put o.dst undef) := by
  obtain ⟨e, rs, cells, q2, q8, q9, q11, q12⟩ := gok.at' j id off l hG
  have hin1 : ∀ i, i < l.length → ∃ z, w'.cell? ⟨p.b, off + i, none⟩ = some z := fun i hi => by
    obtain ⟨z, hz, _⟩ := hin i _ (List.getElem?_eq_getElem hi); exact ⟨z, hz⟩
  have hjj : Nat.testBit (mk j) j = false := by
    cases hb : Nat.testBit (mk j) j with
    | false => rfl
    | true => have := hm.lt _ _ hb; omega
  have hdead : ∀ id, M0.next ≤ id → ow M0 big id = j → (R j).2.get id = .dead := fun id h1 h2 => by
    rw [hRj]
    show (memA M0 big R (mk j) j).get id = .dead
    rw [memA_get, if_neg (by omega), h2, hjj, if_neg (by simp)]
  have hput : (a.put o.dst undef).tmps = a.tmps := by rw [hdst]; rfl
  have hownS : ∀ id', ownS M0 big R (fun k => listed k ∨ k = j) id' → ownS M0 big R listed id' := by
    intro id' hid
    rcases hid with hid | ⟨h1, h2, h3⟩
    · exact .inl hid
    · rcases h2 with h2 | h2
      · exact .inr ⟨h1, h2, h3⟩
      · rw [h2, hdead id' h1 h2] at h3; exact h3.elim
  -- where the object is
  have hwhere : (id < M0.next ∧ M0.get id = .own e rs cells) ∨ (M0.next ≤ id ∧ listed (ow M0 big id) ∧ (R (ow M0 big id)).2.get id = .own e rs cells) := by
    rw [memA_get] at q2
    split at q2
    · exact .inl ⟨by assumption, q2⟩
    · split at q2
      · exact .inr ⟨by omega, hanc _ (by assumption), q2⟩
      · cases q2
  have hidS : ownS M0 big R listed id := by
    rcases hwhere with ⟨h1, h2⟩ | ⟨h1, h2, h3⟩
    · exact .inl ⟨h1, by rw [h2]; trivial⟩
    · exact .inr ⟨h1, h2, by rw [h3]; trivial⟩
  have hNp : N.n ≤ p.b := by
    rcases hwhere with ⟨h1, h2⟩ | ⟨h1, h2, h3⟩
    · rw [h.i1 id h1] at hp; exact h.i6.high id p (by rw [h2]; trivial) hp
    · refine (h.ir _ h2).high id p (by rw [onlyM_get h1 rfl, h3]; trivial) ?_
      rw [restr_of (.inr (.inl rfl))]; exact hp
  have hlow : ∀ b, b < N.n → w'.heap[b]? = w.heap[b]? := fun b hb => hother b (by omega)
  have hne : ∀ id' p', ownS M0 big R listed id' → φ id' = some (some p') → id' ≠ id → w'.heap[p'.b]? = w.heap[p'.b]? := fun id' p' ho' hp' hn => hother _ fun e => hn (h.i5 id' id p' p ho' hidS hp' hp e)
  refine ⟨h.i1, fun id hid hne => .inl (h.i2 id hid hne), fun k hk => ?_, fun k hk => ?_, fun k hk o' d ho' hd' => ?_, fun t ht => ?_, fun id1 id2 p1 p2 ho1 ho2 => h.i5 id1 id2 p1 p2 (hownS _ ho1) (hownS _ ho2), ?_,
    fun b hb hno => (hother b ?_).trans (h.keep b hb hno), fun k hk id2 off2 l2 p2 hG2 hp2 i y hy => ?_, e1.trans h.os, e2.trans h.tape, e3.trans h.output, by rw [e4]; exact h.wsize,
    by rw [hput]; exact h.size, (put_defers ..).trans h.defers, fun id' p1 hid ho1 hp1 => h.i9 id' p1 hid (hownS _ ho1) hp1, fun k hk i hi => ?_⟩
  · rcases hk with hk | rfl
    · exact h.im k hk
    · exact hj
  · rcases hk with hk | rfl
    · have hr := h.ir k hk
      refine ⟨fun id' => ?_, hr.sep, hr.high, hr.fresh, by rw [e4]; exact hr.size⟩
      have hob := hr.objs id'
      by_cases hid : id' = id
      · subst hid
        by_cases hk2 : M0.next ≤ id' ∧ ow M0 big id' = k
        · rcases hwhere with ⟨h1, _⟩ | ⟨h1, h2, h3⟩
          · omega
          · rw [onlyM_get hk2.1 hk2.2] at hob ⊢
            rw [hk2.2] at h3
            rw [h3] at hob ⊢
            exact hob.poke (by rw [restr_of (.inr (.inl hk2.2))]; exact hp) hown q9 hin1 hout
        · have : (onlyM M0 big k (R k).2).get id' = .dead := if_neg hk2
          rw [this]; exact h.i6.glob.same hlow
      · refine hob.step (.refl _) hlow (fun ho1 p1 hp1 => ?_)
        obtain ⟨k1, k2, k3⟩ := onlyM_own ho1
        exact hne id' p1 (.inr ⟨k1, by rw [k2]; exact hk, by rw [k2]; exact k3⟩) (restr_some hp1).2 hid
    · have hno : ∀ id', ¬ isOwn ((onlyM M0 big k (R k).2).get id') := fun id' ho1 => by
        obtain ⟨k1, k2, k3⟩ := onlyM_own ho1
        rw [hdead id' k1 k2] at k3; exact k3
      refine ⟨fun id' => ?_, fun id1 id2 p1 p2 ho1 => absurd ho1 (hno id1), fun id1 p1 ho1 => absurd ho1 (hno id1), fun id' hid => ?_, by rw [e4]; exact h.i6.size⟩
      · show ObjRel N _ w' id' (if M0.next ≤ id' ∧ ow M0 big id' = k then (R k).2.get id' else .dead)
        split
        · rename_i hh; rw [hdead id' hh.1 hh.2]; exact h.i6.glob.same hlow
        · exact h.i6.glob.same hlow
      · rw [hRj] at hid
        have hid : M0.next + k * big ≤ id' := hid
        refine ⟨?_, ?_⟩
        · show (if M0.next ≤ id' ∧ ow M0 big id' = k then (R k).2.get id' else .dead) = .dead
          split
          · rename_i hh; exact hdead id' hh.1 hh.2
          · rfl
        · cases hφ : restr φ (domP mk M0 big k) id' with
          | none => rfl
          | some x =>
            exfalso
            obtain ⟨d1, d2⟩ := restr_some hφ
            have hli := h.i2 id' (by omega) (by rw [d2]; simp)
            rcases d1 with d1 | d1 | d1
            · omega
            · rw [d1] at hli; exact hnl hli
            · have := hm.lt _ _ d1
              rw [ow_lt hbig] at this
              omega
  · rw [hput]
    rcases hk with hk | rfl
    · exact h.iv k hk o' d ho' hd'
    · rw [ho] at ho'; cases ho'; rw [hdst] at hd'; cases hd'
  · rw [hput]
    exact h.i4 t fun k o hk ho => ht k o (.inl hk) ho
  · refine ⟨fun id' => ?_, h.i6.sep, h.i6.high, h.i6.fresh, by rw [e4]; exact h.i6.size⟩
    have hob := h.i6.objs id'
    by_cases hid : id' = id
    · subst hid
      rcases hwhere with ⟨h1, h2⟩ | ⟨h1, h2, h3⟩
      · rw [h2] at hob ⊢
        exact hob.poke (by rw [← h.i1 id' h1]; exact hp) hown q9 hin1 hout
      · rw [(h.i6.fresh id' h1).1]; exact h.i6.glob.same hlow
    · refine hob.step (.refl _) (fun b hb => hlow b hb) (fun ho1 p1 hp1 => ?_)
      have hlt : id' < M0.next := by
        rcases Nat.lt_or_ge id' M0.next with h1 | h1
        · exact h1
        · rw [(h.i6.fresh id' h1).1] at ho1; exact ho1.elim
      exact hne id' p1 (.inl ⟨hlt, ho1⟩) (by rw [h.i1 id' hlt]; exact hp1) hid
  · intro e5
    subst e5
    rcases hwhere with ⟨h1, h2⟩ | ⟨h1, h2, h3⟩
    · rw [h.i1 id h1] at hp; exact hno j id off l p hG hp rfl
    · have := h.i9 id p h1 hidS hp; omega
  · rcases hk with hk | rfl
    · obtain ⟨z, hz, hzr⟩ := h.fs k hk id2 off2 l2 p2 hG2 hp2 i y hy
      by_cases hb : p2.b = p.b
      · have hid2 : ownS M0 big R listed id2 := by
          obtain ⟨e', rs', cells', s2, _⟩ := gok.at' k id2 off2 l2 hG2
          rw [memA_get] at s2
          split at s2
          · exact .inl ⟨by assumption, by rw [s2]; trivial⟩
          · split at s2
            · exact .inr ⟨by omega, h.cl k hk _ (by assumption), by rw [s2]; trivial⟩
            · cases s2
        have hid : id2 = id := h.i5 id2 id p2 p hid2 hidS hp2 hp hb
        subst hid
        rw [hp] at hp2; cases hp2
        have hne : k ≠ j := fun e => hnl (e ▸ hk)
        have hil : i < l2.length := (List.getElem?_eq_some_iff.1 hy).1
        refine ⟨z, ?_, hzr⟩
        rw [hout (off2 + i) ?_]
        · exact hz
        · rcases Nat.lt_or_ge k j with h1 | h1
          · rcases gok.dis k j id2 off l off2 l2 h1 hG2 hG with h2 | h2 <;> omega
          · rcases gok.dis j k id2 off2 l2 off l (by omega) hG hG2 with h2 | h2 <;> omega
      · exact ⟨z, by rw [cell_eq (hother _ hb)]; exact hz, hzr⟩
    · rw [hG] at hG2; cases hG2
      rw [hp] at hp2; cases hp2
      exact hin i y hy
  · rcases hk with hk | rfl
    · exact .inl (h.cl k hk i hi)
    · exact .inl (hanc i hi)
theorem storeCells_world {P : Program} {e : TypeId} {sz b : Nat} (zs : List Value) : ∀ {w : World} (o i : Nat) (_ : OwnBlock w b e sz) (_ : ∀ z ∈ zs, z.oneCell' = true) (_ : o + i + zs.length ≤ sz), ∃ w', (Go.storeCells ⟨b, o, none⟩ zs i).run P w = .ok () w' ∧ OwnBlock w' b e sz ∧
    (∀ e' n', OwnBlock w b e' n' → OwnBlock w' b e' n') ∧
    (∀ b', b' ≠ b → w'.heap[b']? = w.heap[b']?) ∧ (∀ k z, zs[k]? = some z → w'.cell? ⟨b, o + i + k, none⟩ = some z) ∧ (∀ k, (k < o + i ∨ o + i + zs.length ≤ k) → w'.cell? ⟨b, k, none⟩ = w.cell? ⟨b, k, none⟩) ∧
    w'.os = w.os ∧ w'.tape = w.tape ∧ w'.output = w.output ∧ w'.heap.size = w.heap.size := by
  induction zs with
  | nil => intro w o i h1 h2 h3; exact ⟨w, rfl, h1, fun _ _ h => h, fun _ _ => rfl, by simp, fun _ _ => rfl, rfl, rfl, rfl, rfl⟩
  | cons z zs ih =>
    intro w o i h1 h2 h3
    have hlt : o + i < sz := by simp only [List.length_cons] at h3; omega
    have hfree := h1.free hlt
    have hone := h2 z (by simp)
    have h1' := h1
    obtain ⟨cur, fz, hcur, hsz, hfz⟩ := h1
    have hz0 : w.cell? ⟨b, o + i, none⟩ = some cur[o + i] := by
      simp only [World.cell?, hcur]
      simp [hsz, hlt]
    have hblk := setCell_block w b (o + i) z cur e fz hcur
    have hrun : (store ⟨b, o + i, none⟩ z).run P w = .ok () (w.setCell ⟨b, o + i, none⟩ z) := by rw [run_store P w _ z _ hone, hz0]; simp [hfree]
    have hadd : (⟨b, o, none⟩ : Addr).add i = ⟨b, o + i, none⟩ := by
      unfold Addr.add
      split
      · rename_i h; subst h; rfl
      · rfl
    have tr : ∀ e' n', OwnBlock w b e' n' → OwnBlock (w.setCell ⟨b, o + i, none⟩ z) b e' n' := by
      rintro e' n' ⟨cur', fz', hcur', hsz', hfz'⟩
      rw [hcur] at hcur'; cases hcur'
      exact ⟨_, _, hblk, by simpa using hsz', hfz'⟩
    obtain ⟨w', k1, k2, k3, k4, k5, k6, k7, k8, k9, k10⟩ := ih (w := w.setCell ⟨b, o + i, none⟩ z) o (i + 1) (tr _ _ h1') (fun y hy => h2 y (by simp [hy])) (by simp only [List.length_cons] at h3; omega)
    have hself : (w.setCell ⟨b, o + i, none⟩ z).cell? ⟨b, o + i, none⟩ = some z := World.cell?_setCell_same _ _ _ hz0
    refine ⟨w', ?_, k2, fun e' n' h => k3 _ _ (tr _ _ h), fun b' hb' => (k4 b' hb').trans (setCell_other_block _ _ _ _ (Ne.symm hb')), fun k y hy => ?_, fun k hk => ?_, k7, k8, k9, by rw [k10]; simp⟩
    · rw [Go.storeCells]
      simp only [hadd, Sem.run_bind, hrun, Result.andThen_ok]
      exact k1
    · cases k with
      | zero =>
        have hy : z = y := by simpa using hy
        subst hy
        rw [k6 (o + i + 0) (by omega)]; exact hself
      | succ k =>
        have := k5 k y (by simpa using hy)
        rwa [show o + (i + 1) + k = o + i + (k + 1) by omega] at this
    · simp only [List.length_cons] at hk
      rw [k6 k (by omega)]
      exact World.cell?_setCell_other _ _ _ _ (by intro e; injection e with _ e; omega)
theorem leaves_one {φ : Phi} (l : List AV) : ∀ {zs : List Value}, allLeaf l = true → AVsRel φ l zs → ∀ z ∈ zs, z.oneCell' = true := by
  induction l with
  | nil => intro zs _ h; cases h; simp
  | cons x l ih =>
    intro zs hl h
    have hl : bif2 (leafA x) (allLeaf l) false = true := hl
    obtain ⟨h1, h2⟩ := bif2_tt hl
    cases h with
    | cons hx ht =>
      intro z hz
      rcases List.mem_cons.1 hz with rfl | hz
      · exact leafA_one h1 hx
      · exact ih h2 ht z hz

theorem putO_rel {N : NB} {φ : Phi} {w : World} {id n off : Nat} {o : AObj} (h : ObjRel N φ w id o) : ObjRel N φ w id (putO (topsL n) off o) := by
  cases o with
  | dead => trivial
  | ro a b c => exact h
  | vec a b c => exact h
  | map a b => exact h
  | own e rs cells =>
    obtain ⟨p, hp, h1, h2, h3, h4, h5⟩ := h
    refine ⟨p, hp, h1, h2, h3, by rw [setAt_len]; exact h4, fun j x hx => ?_⟩
    rcases setAt_spec _ _ _ _ _ hx with ⟨k1, k2⟩ | k1
    · have ht : ∀ (n : Nat) (y : AV), y ∈ topsL n → y = .top := by
        intro n
        induction n with
        | zero => intro y hy; cases hy
        | succ n ih => intro y hy; rcases List.mem_cons.1 (show y ∈ AV.top :: topsL n from hy) with rfl | hy
                       · rfl
                       · exact ih y hy
      have hlt : j < cells.length := by
        have := (List.getElem?_eq_some_iff.1 hx).1
        rwa [setAt_len] at this
      obtain ⟨z, hz, _⟩ := h5 j _ (List.getElem?_eq_getElem hlt)
      exact ⟨z, hz, by rw [ht n x (List.mem_of_getElem? k2)]; exact .top _⟩
    · exact h5 j x k1
theorem topO_rel {N : NB} {φ : Phi} {w : World} {id : Nat} {o : AObj} (tg : List (Nat × Nat × Nat)) (h : ObjRel N φ w id o) : ObjRel N φ w id (topO tg id o) := by
  induction tg with
  | nil => exact h
  | cons t tg ih =>
    show ObjRel N φ w id (bif2 (Nat.beq t.1 id) (putO (topsL t.2.2) t.2.1 (topO tg id o)) (topO tg id o))
    rw [bif2_eq]
    split
    · exact putO_rel ih
    · exact ih
theorem topO_own (tg : List (Nat × Nat × Nat)) {id : Nat} {o : AObj} : isOwn (topO tg id o) ↔ isOwn o := by
  induction tg with
  | nil => exact Iff.rfl
  | cons t tg ih =>
    show isOwn (bif2 (Nat.beq t.1 id) (putO (topsL t.2.2) t.2.1 (topO tg id o)) (topO tg id o)) ↔ _
    rw [bif2_eq]
    split
    · rw [putO_own]; exact ih
    · exact ih
theorem topO_dead (tg : List (Nat × Nat × Nat)) {id : Nat} : topO tg id .dead = .dead := by
  induction tg with
  | nil => rfl
  | cons t tg ih =>
    show bif2 (Nat.beq t.1 id) (putO (topsL t.2.2) t.2.1 (topO tg id .dead)) (topO tg id .dead) = .dead
    rw [bif2_eq, ih]
    split <;> rfl
theorem topM_same (tg : List (Nat × Nat × Nat)) (M : Mem) : (topM tg M).next = M.next ∧ (topM tg M).lock = M.lock ∧ ∀ id, isOwn ((topM tg M).get id) ↔ isOwn (M.get id) := by
  cases tg with
  | nil => exact ⟨rfl, rfl, fun _ => Iff.rfl⟩
  | cons t tg => exact ⟨rfl, rfl, fun id => topO_own (t :: tg)⟩
theorem topM_rep {N : NB} {φ : Phi} {M : Mem} {w : World} (tg : List (Nat × Nat × Nat)) (h : Rep N φ M w) : Rep N φ (topM tg M) w := by
  obtain ⟨e1, e2, e3⟩ := topM_same tg M
  refine ⟨fun id => ?_, fun id id' p p' h1 h2 => h.sep id id' p p' ((e3 _).1 h1) ((e3 _).1 h2), fun id p h1 => h.high id p ((e3 _).1 h1), fun id hid => ?_, h.size⟩
  · cases tg with
    | nil => exact h.objs id
    | cons t tg => exact topO_rel (t :: tg) (h.objs id)
  · rw [e1] at hid
    obtain ⟨f1, f2⟩ := h.fresh id hid
    refine ⟨?_, f2⟩
    cases tg with
    | nil => exact f1
    | cons t tg => show topO (t :: tg) id (M.get id) = .dead; rw [f1]; exact topO_dead _
theorem Ext.untop {φ φ' : Phi} {M M' : Mem} {w w' : World} {tg : List (Nat × Nat × Nat)} (h : Ext φ (topM tg M) w φ' M' w') : Ext φ M w φ' M' w' := by
  obtain ⟨e1, e2, e3⟩ := topM_same tg M
  refine ⟨h.phi, fun id hid => h.phi0 id (by rw [e1]; exact hid), by rw [← e1]; exact h.next, h.lock.trans e2, h.os, h.tape, h.output, h.size, fun b hb hno => h.keep b hb fun id p h1 h2 => hno id p (by rw [← e2]; exact h1) ((e3 _).1 h2), fun id p h1 h2 h3 => ?_⟩
  obtain ⟨id', p', k1, k2, k3, k4⟩ := h.old id p h1 h2 h3
  exact ⟨id', p', (e3 _).1 k1, k2, k3, fun k => by rw [← e2]; exact k4 (by rw [e2]; exact k)⟩
theorem Ext.top {φ φ' : Phi} {M M' : Mem} {w w' : World} (tg : List (Nat × Nat × Nat)) (h : Ext φ M w φ' M' w') : Ext φ M w φ' (topM tg M') w' := by
  obtain ⟨e1, e2, e3⟩ := topM_same tg M'
  exact ⟨h.phi, h.phi0, by rw [e1]; exact h.next, e2.trans h.lock, h.os, h.tape, h.output, h.size, h.keep, fun id p h1 h2 h3 => h.old id p ((e3 _).1 h1) h2 h3⟩
theorem Good.topN {N : NB} {φ : Phi} {M : Mem} {w w' : World} {v : Value} {x : AV × Mem} (l : List (Nat × Nat)) (h : Good N φ M w (· = x) v w') : Good N φ M w (· = topNew l x) v w' := by
  obtain ⟨φ', y, M', e, h1, h2, h3⟩ := h
  subst e
  cases l with
  | nil => exact ⟨φ', y, M', rfl, h1, h2, h3⟩
  | cons p l =>
    cases y with
    | ptr id r c => exact ⟨φ', _, _, rfl, h1, topM_rep _ h2, h3.top _⟩
    | _ => exact ⟨φ', _, M', rfl, h1, h2, h3⟩
variable (tok : TTok P tt) (hc : CallsOk P N callF)
include tok hc

/-- Operation j, in the first part. -/
theorem draw_step (hall : ∀ o ∈ ops.toList, OpOk P n o) (hm : MaskOk ops.toList mk) (hd : dstsOk ops.toList = true) (hbig : 0 < big) {listed : Nat → Prop} {φ : Phi} {w : World} {a : Act} (h : DInv N n ds ops mk big M0 st0 φ0 w0 m R G listed φ w a)
    {j : Nat} (hj : j < m) {o : Oper} (ho : ops[j]? = some o) (hnl : ¬ listed j) (hanc : ∀ i, Nat.testBit (mk j) i = true → listed i)
    {x : AV × Mem} {tl : List (Nat × Nat)} (hop : (drawOp P tt callF ops.toList (memA M0 big R (mk j) j) (stA R st0 (mk j) (effL mk j ops.toList 0) 0) o).holds (· = x) (fun _ _ => False)) (hRx : R j = topNew tl x) (hnext : (R j).2.next ≤ M0.next + (j + 1) * big) (gok : GOk mk big M0 φ0 w0 R G) (hGj : G j = none) {QX : Exit → Act → World → Prop} {K : Act → World → Prop}
    (hK : ∀ φn w' a', DInv N n ds ops mk big M0 st0 φ0 w0 m R G (fun k => listed k ∨ k = j) φn w' a' → K a' w') : wpOp P ops QX j K a w := by
  have hA := h.repA hm hbig hanc
  have hT := h.tmpsA hm hd hanc hnl
  have hoo := hall o (by rw [Array.mem_toList_iff]; exact Array.mem_of_getElem? ho)
  have key : ∀ v w', Good N (restr φ (domA mk M0 big j)) (memA M0 big R (mk j) j) w (· = x) v w' → K (a.put o.dst v) w' := by
    intro v w' hg
    obtain ⟨φn, hn⟩ := h.after hm hd hbig hj ho hoo.1 hnl hanc hnext gok hGj (by rw [hRx]; exact hg.topN tl)
    exact hK φn w' _ hn
  have go : (evOp ⟨P, tt, callF, memA M0 big R (mk j) j, stA R st0 (mk j) (effL mk j ops.toList 0) 0⟩ o.op).holds (· = x) (fun _ _ => False) → o.wp P a w K QX := by
    intro hh
    have hout := evOp_ok (K := ⟨P, tt, callF, memA M0 big R (mk j) j, stA R st0 (mk j) (effL mk j ops.toList 0) 0⟩) rfl tok hc hA hT o hh hoo.2
    unfold Oper.wp
    rcases hout with ⟨v, w', hrun, hg⟩ | ⟨v, w', hrun, hg⟩ | ⟨f, args, w', hrun, hcalls⟩
    · rcases hrun with hrun | ⟨hrun, hv⟩
      · rw [hrun]; exact key v w' hg
      · rw [hrun]; subst hv; exact key _ w' hg
    · obtain ⟨_, _, _, hF, _⟩ := hg; exact hF.elim
    · rw [hrun]
      refine Calls.mono hcalls ?_
      intro e w'' he
      rcases he with ⟨v, rfl, hg⟩ | ⟨v, rfl, hg⟩
      · exact key v w'' hg
      · obtain ⟨_, _, _, hF, _⟩ := hg; exact hF.elim
  have skip : (AV.v undef, memA M0 big R (mk j) j) = x → K (a.put o.dst undef) w := fun e => key undef w (.here hA e (.v _))
  unfold wpOp
  simp only [ho]
  rcases drawOp_ok hop with ⟨hg, hh⟩ | ⟨g, want, p, d, hg, hp, hdp, hh⟩
  · rw [if_pos (by simp [Region.wanted, hg])]
    exact .inl (go hh)
  · have hpok := hall p (List.mem_of_getElem? hp)
    have hlt : d < a.tmps.size := by rw [h.size]; exact hpok.1 d hdp
    obtain ⟨y1, y2⟩ := yielded_rel hT hp hdp hlt
    rcases hh with ⟨b, hb, h1, h2⟩ | ⟨h1, h2, h3, h4⟩
    · have hy := y1 b hb
      by_cases e : b = want
      · rw [if_pos (by simp [Region.wanted, hg, hy, e])]
        exact .inl (go (h1 e))
      · rw [if_neg (by simp [Region.wanted, hg, hy, e])]
        exact skip (h2 e)
    · rw [if_neg (by simp [Region.wanted, hg, y2 h1 h2 h3])]
      exact skip h4

omit hc in
/-- A store to what is there, in the first part. -/
theorem draw_stepS (hm : MaskOk ops.toList mk) (hd : dstsOk ops.toList = true) (hbig : 0 < big) (gok : GOk mk big M0 φ0 w0 R G) {listed : Nat → Prop} {φ : Phi} {w : World} {a : Act} (h : DInv N n ds ops mk big M0 st0 φ0 w0 m R G listed φ w a)
    {j : Nat} (hj : j < m) {o : Oper} (ho : ops[j]? = some o) (hnl : ¬ listed j) (hanc : ∀ i, Nat.testBit (mk j) i = true → listed i)
    (hf : FltAt tt M0 (memA M0 big R (mk j) j) G j (stA R st0 (mk j) (effL mk j ops.toList 0) 0) o) (hRj : R j = (.v undef, memA M0 big R (mk j) j)) {QX : Exit → Act → World → Prop} {K : Act → World → Prop}
    (hK : ∀ φn w' a', DInv N n ds ops mk big M0 st0 φ0 w0 m R G (fun k => listed k ∨ k = j) φn w' a' → K a' w') : wpOp P ops QX j K a w := by
  have hT := h.tmpsA hm hd hanc hnl
  obtain ⟨t, x, y, id, r, c, e, rs, cells, o1, o2, o3, hb, hx, hg, hG, k1, k3, k4, k5, k6, k7⟩ := hf.ex
  have hob := (h.repA hm hbig hanc).objs id
  rw [hg] at hob
  obtain ⟨p, q1, ⟨q4, q5⟩, q6, r3, r4, r5⟩ := hob
  have hpφ : φ id = some (some p) := (restr_some q1).2
  have hv := evA_rel hT x
  rw [hx] at hv
  generalize hgv : a.eval x = xv at hv
  have hy := evA_rel hT y
  cases hv with
  | ptr _ _ _ p' hp' hps' =>
    have hpp : p' = p := by
      rw [q1] at hp'; cases hp'; rfl
    subst hpp
    have hat : p'.at r c = ⟨p'.b, r * rs + c, none⟩ := by simp [Pl.at, q4, q6, q5]
    have hsz1 : ∀ z, leafA z = true → z ≠ .top := by rintro z hz rfl; cases hz
    have hrel : AVsRel (restr φ (domA mk M0 big j)) (evA (stA R st0 (mk j) (effL mk j ops.toList 0) 0) y).cells (a.eval y).cells.toList := by
      refine hy.cells (fun e => ?_) (fun v e => ?_)
      · rw [e] at k3; cases k3
      · rw [e] at k3
        obtain ⟨h1, _⟩ := bif2_tt (show bif2 (leafA (.v v)) (allLeaf []) false = true from k3)
        exact h1
    have hlen : (a.eval y).cells.toList.length = (tt t).size := by rw [← hrel.length, k4]
    obtain ⟨w', s1, s2, s3, s4, s5, s6, s7, s8, s9, s10⟩ := storeCells_world (P := P) (a.eval y).cells.toList (r * rs + c) 0 r3 (leaves_one _ k3 hrel) (by rw [hlen]; omega)
    simp only [Nat.add_zero] at s5 s6
    have hn := h.afterS hm hbig gok hj ho o3 hnl hanc hRj hG hpφ s4 s3 (fun i z hz => ?_) (fun i hi => s6 i (by rw [hlen, ← k4]; exact hi)) s7 s8 s9 s10
    · unfold wpOp
      simp only [ho]
      rw [if_pos (by simp [Region.wanted, o2])]
      refine .inl ?_
      have hsz : (a.eval y).cells.size = (tt t).size := by rw [← hlen, Array.length_toList]
      have hrun : (execOp a.eval o).run P w = .ok .skip w' ∨ (execOp a.eval o).run P w = .ok (.value undef) w' := by
        unfold execOp
        rw [o1]
        rw [← hat] at s1
        simp [Instr.storeAt, Instr.sureAddr, hgv, storeVar, run_sizeOf' (tok t hb), hsz, s1]
      unfold Oper.wp
      rcases hrun with hrun | hrun
      · rw [hrun]; exact hK φ w' _ hn
      · rw [hrun]; exact hK φ w' _ hn
    · obtain ⟨z', hz', hzr⟩ := hrel.get i z hz
      exact ⟨z', s5 i z' hz', hzr⟩

omit hc in
/-- What is told by slots alone yields the same in any world. -/
theorem pure_yields {N' : NB} {φ : Phi} {A : Mem} {w : World} {st : Tmps} {a : Act} (hr : Rep N' φ A w) (hT : TmpsRel φ st a.tmps) {o : Oper} {r : AV × Mem} (hw : Region.wanted o (yielded ops a.tmps) = true) (hp : pureV st o.op = true)
    (hop : (evOp ⟨P, tt, callF, A, st⟩ o.op).holds (· = r) (fun _ _ => False)) : ∃ v, Yields P ops o v a ∧ Good N' φ A w (· = r) v w := by
  have mkY : ∀ v, (∀ w, (execOp a.eval o).run P w = .ok (.value v) w) → Yields P ops o v a := fun v h => .inl ⟨hw, h⟩
  cases ho : o.op with
  | move x =>
    rw [ho] at hop
    exact ⟨a.eval x, mkY _ (fun w => by unfold execOp; rw [ho]; rfl), .here hr hop (evA_rel hT x)⟩
  | assign x =>
    rw [ho] at hop
    exact ⟨a.eval x, mkY _ (fun w => by unfold execOp; rw [ho]; rfl), .here hr hop (evA_rel hT x)⟩
  | pick c x y =>
    rw [ho] at hop
    obtain ⟨t, ht, h⟩ := onB_ok (show (onB (evA st c) fun t => .br t (.ret (evA st x, A)) (.ret (evA st y, A))).holds (· = r) (fun _ _ => False) from hop)
    have hc := evA_rel hT c
    rw [ht] at hc
    generalize hgc : a.eval c = cv at hc
    cases hc
    cases t with
    | true => exact ⟨a.eval x, mkY _ (fun w => by unfold execOp; rw [ho]; simp [hgc]; rfl), .here hr (h.1 rfl) (evA_rel hT x)⟩
    | false => exact ⟨a.eval y, mkY _ (fun w => by unfold execOp; rw [ho]; simp [hgc]; rfl), .here hr (h.2 rfl) (evA_rel hT y)⟩
  | extract t ix =>
    rw [ho] at hop
    obtain ⟨l, hl, h⟩ := onTup_ok (show (onTup (evA st t) fun l => (sel l ix).bind fun v => .ret (v, A)).holds (· = r) (fun _ _ => False) from hop)
    rw [T.holds_bind] at h
    obtain ⟨v, hv, hq⟩ := sel_ok h
    have ht := evA_rel hT t
    rw [hl] at ht
    generalize hgv : a.eval t = tv at ht
    cases ht with
    | tup _ vs hrel =>
      obtain ⟨z, hz, hzr⟩ := hrel.get _ _ hv
      have hz : vs[ix]? = some z := by simpa using hz
      exact ⟨z, mkY _ (fun w => by unfold execOp; rw [ho]; simp [hgv, Instr.extract, hz]), .here hr hq hzr⟩
  | binOp op t x y yt =>
    rw [ho] at hop hp
    obtain ⟨hb, h⟩ := onK_both (show (onK (tt t).u (evBin P tt A op t x y (evA st x) (evA st y)) (evBin P tt A op t x y (evA st x) (evA st y))).holds (· = r) (fun _ _ => False) from hop)
    obtain ⟨h1, h2⟩ := Bool.and_eq_true_iff.1 (show (isIA (evA st x) && isIA (evA st y)) = true from hp)
    have hu := evA_rel hT x
    have hv := evA_rel hT y
    generalize hgx : evA st x = xa at *
    generalize hgy : evA st y = ya at *
    have plain : (retM A (binA P (tt t).kind op t x y xa ya)).holds (· = r) (fun _ _ => False) := by
      cases xa with
      | i k n => cases ya <;> first | exact h | cases h2
      | b n => cases ya <;> first | exact h | cases h2
      | s n => cases ya <;> first | exact h | cases h2
      | _ => cases h1
    have hany : ∀ w, Val P φ w (fun v => (v, A) = r) (do eqGuard op t x y (a.eval x) (a.eval y); binOp op t (a.eval x) (a.eval y)) := fun w => binA_ok tok hb hu hv (retM_ok plain)
    obtain ⟨z, xr, hrun, hxr, hz⟩ := hany w
    have hxi : isIA xr = true := by
      have hk : (binA P (tt t).kind op t x y xa ya).holds (fun v => isIA v = true) (fun _ _ => False) := by
        cases xa with
        | i k n =>
          cases ya with
          | i k' n' =>
            have hh : (bif2 (isSh op) (binI op k n n') (.br (decide (k = k')) (binI op k n n') .fail) : T AV).holds (fun v => (v, A) = r) (fun _ _ => False) := retM_ok plain
            show (bif2 (isSh op) (binI op k n n') (.br (decide (k = k')) (binI op k n n') .fail) : T AV).holds (fun v => isIA v = true) (fun _ _ => False)
            have bi : (binI op k n n').holds (fun v => (v, A) = r) (fun _ _ => False) → (binI op k n n').holds (fun v => isIA v = true) (fun _ _ => False) := by
              intro hq
              cases op with
              | quo => exact ⟨fun e => (hq.1 e).elim, fun _ => rfl⟩
              | rem => exact ⟨fun e => (hq.1 e).elim, fun _ => rfl⟩
              | shl => exact ⟨fun e => (hq.1 e).elim, fun _ => rfl⟩
              | shr => exact ⟨fun e => (hq.1 e).elim, fun _ => rfl⟩
              | _ => exact rfl
            rw [bif2_eq] at hh ⊢
            split
            · rename_i e; rw [if_pos e] at hh; exact bi hh
            · rename_i e; rw [if_neg e] at hh
              exact ⟨fun e => bi (hh.1 e), fun e => hh.2 e⟩
          | b n' => exact (retM_ok plain).elim
          | s n' => exact (retM_ok plain).elim
          | _ => cases h2
        | b n =>
          cases ya with
          | b n' =>
            have hh : (binB (tt t).kind op n n').holds (fun v => (v, A) = r) (fun _ _ => False) := retM_ok plain
            show (binB (tt t).kind op n n').holds (fun v => isIA v = true) (fun _ _ => False)
            cases hc : (tt t).kind with
            | bool =>
              rw [hc] at hh
              cases op with
              | eql => exact rfl
              | neq => exact rfl
              | _ => exact hh.elim
            | _ => rw [hc] at hh; exact hh.elim
          | i k' n' => exact (retM_ok plain).elim
          | s n' => exact (retM_ok plain).elim
          | _ => cases h2
        | s n =>
          cases ya with
          | s n' =>
            have hh : (binS op n n').holds (fun v => (v, A) = r) (fun _ _ => False) := retM_ok plain
            show (binS op n n').holds (fun v => isIA v = true) (fun _ _ => False)
            cases op with
            | add => exact ⟨fun _ => rfl, fun e => (hh.2 e).elim⟩
            | eql => exact rfl
            | neq => exact rfl
            | lss => exact rfl
            | leq => exact rfl
            | gtr => exact rfl
            | geq => exact rfl
            | _ => exact hh.elim
          | i k' n' => exact (retM_ok plain).elim
          | b n' => exact (retM_ok plain).elim
          | _ => cases h2
        | _ => cases h1
      obtain ⟨a1, h3, h4⟩ := T.leaf hk
      obtain ⟨a2, h5, h6⟩ := T.leaf (retM_ok plain)
      have e1 : a1 = xr := by
        have e2 : a1 = a2 := T.leaf_eq h4 h6
        have e3 : a2 = xr := by rw [← hxr] at h5; exact (Prod.mk.inj h5).1
        rw [e2, e3]
      rw [← e1]; exact h3
    refine ⟨z, mkY _ (fun w' => ?_), .here hr hxr hz⟩
    obtain ⟨z', xr', hrun', hxr', hz'⟩ := hany w'
    have e : xr' = xr := (Prod.mk.inj (hxr'.trans hxr.symm)).1
    subst e
    have ez : z' = z := by cases xr' <;> first | (cases hz; cases hz'; rfl) | cases hxi
    subst ez
    unfold execOp; rw [ho]
    simp only [Sem.run_bind] at hrun' ⊢
    revert hrun'
    cases (eqGuard op t x y (a.eval x) (a.eval y)).run P w' with
    | ok u w1 =>
      simp only [Result.andThen_ok]
      intro hrun'
      simp [hrun']
    | halt e w1 => intro hrun'; cases hrun'
  | _ => rw [ho] at hp; cases hp

def PureAt (ops : Array Oper) (mk : Nat → Nat) (st0 : Tmps) (R : DR) (G : GS) (u : Nat) : Prop := ∃ o, ops[u]? = some o ∧ G u = none ∧ pv0 ops.toList u o = true ∧ PW ops.toList (stA R st0 (mk u) (effL mk u ops.toList 0) 0) o
omit tok hc in
theorem pv0_spec {u : Nat} {o : Oper} (h : pv0 ops.toList u o = true) : ∀ j oj, ops[j]? = some oj → u < j → (∀ e ∈ oj.after, Region.binds .any e = true → e.on ≠ u) → o.apart ops oj = true := by
  intro j oj hj hlt hno
  obtain ⟨_, h⟩ := Bool.and_eq_true_iff.1 (show (pureK o.op && freeU ops.toList u o) = true from h)
  unfold freeU at h
  rw [List.all_eq_true] at h
  have hm : oj ∈ ops.toList.drop (u + 1) := by
    have h1 : (ops.toList.drop (u + 1))[j - (u + 1)]? = some oj := by rw [List.getElem?_drop, show u + 1 + (j - (u + 1)) = j by omega]; simpa using hj
    exact List.mem_of_getElem? h1
  rcases Bool.or_eq_true_iff.1 (h oj hm) with h1 | h1
  · rw [List.any_eq_true] at h1
    obtain ⟨e, he, hb⟩ := h1
    obtain ⟨hb1, hb2⟩ := Bool.and_eq_true_iff.1 hb
    exact absurd (Nat.eq_of_beq_eq_true hb2) (hno e (by simpa using he) hb1)
  · simpa using h1
omit hc in
/-- The same, carried out or not. -/
theorem pw_yields {N' : NB} {φ : Phi} {A : Mem} {w : World} {st : Tmps} {a : Act} (hr : Rep N' φ A w) (hT : TmpsRel φ st a.tmps) (hsz : ∀ p ∈ ops.toList, ∀ d, p.dst = some d → d < a.tmps.size) {o : Oper} {r : AV × Mem} (hp : PW ops.toList st o)
    (hop : (drawOp P tt callF ops.toList A st o).holds (· = r) (fun _ _ => False)) : ∃ v, Yields P ops o v a ∧ Good N' φ A w (· = r) v w := by
  rcases drawOp_ok hop with ⟨hg, hh⟩ | ⟨g, want, p, d, hg, hpp, hdp, hh⟩
  · exact pure_yields tok hr hT (by simp [Region.wanted, hg]) (hp.1 hg) hh
  · obtain ⟨y1, y2⟩ := yielded_rel hT (by simpa using hpp) hdp (hsz p (List.mem_of_getElem? hpp) d hdp)
    have skip : Region.wanted o (yielded ops a.tmps) = false → (AV.v undef, A) = r → ∃ v, Yields P ops o v a ∧ Good N' φ A w (· = r) v w := fun h e => ⟨undef, .inr ⟨h, rfl⟩, .here hr e (.v _)⟩
    rcases hh with ⟨b, hb, h1, h2⟩ | ⟨h1, h2, h3, h4⟩
    · have hy := y1 b hb
      by_cases e : b = want
      · exact pure_yields tok hr hT (by simp [Region.wanted, hg, hy, e]) (hp.2 _ hg p d hpp hdp (by rw [hb, e])) (h1 e)
      · exact skip (by simp [Region.wanted, hg, hy, e]) (h2 e)
    · exact skip (by simp [Region.wanted, hg, y2 h1 h2 h3]) h4
theorem draw_any (hall : ∀ o ∈ ops.toList, OpOk P n o) (hm : MaskOk ops.toList mk) (hd : dstsOk ops.toList = true) (hbig : 0 < big) (hms : m ≤ ops.size) (hsp : ∀ i, m ≤ i → i < ops.size → ∀ u, u < i → Nat.testBit (mk i) u = true ∨ (u < m ∧ PureAt ops mk st0 R G u))
    (hsel : Region.noSelect ops = true) {QX : Exit → Act → World → Prop} (hQ : ∀ (d : Option Tmp) v c a w, QX (.panic c) (a.put d v) w → QX (.panic c) a w)
    (gok : GOk mk big M0 φ0 w0 R G) {nt : Option Nat → List (Nat × Nat)}
    (hR : ∀ j o, j < m → ops[j]? = some o → (G j = none ∧ (∃ x, (drawOp P tt callF ops.toList (memA M0 big R (mk j) j) (stA R st0 (mk j) (effL mk j ops.toList 0) 0) o).holds (· = x) (fun _ _ => False) ∧ R j = topNew (nt o.dst) x) ∧ (R j).2.next ≤ M0.next + (j + 1) * big) ∨
      (FltAt tt M0 (memA M0 big R (mk j) j) G j (stA R st0 (mk j) (effL mk j ops.toList 0) 0) o ∧ R j = (.v undef, memA M0 big R (mk j) j)))
    {Q : Tmps × Mem → Prop} {Qp : AV → Mem → Prop}
    (hend : ∀ φ a w, StOk N n ds φ (memF M0 big m R G) w (stA R st0 (Nat.sub (Nat.pow 2 m) 1) (ops.toList.take m) 0) a →
      Ext φ0 M0 w0 φ (memF M0 big m R G) w → (∀ t, (∀ k o, k < m → ops[k]? = some o → o.dst ≠ some t) → AVRel φ0 (st0 t) (a.tmps.getD t undef)) →
      ∃ φ' st' M', (evOps P tt callF ops.toList (ops.toList.drop m) st' M').holds Q Qp ∧ StOk N n ds φ' M' w st' a ∧ Ext φ0 M0 w0 φ' M' w)
    (hq : ∀ φ' M' w' st' a', Q (st', M') → StOk N n ds φ' M' w' st' a' → Ext φ0 M0 w0 φ' M' w' → QX .normal a' w') (hp : PanOk N ds φ0 M0 w0 Qp QX) :
    ∀ (fuel : Nat) (listed : Array Bool) (a : Act) (w : World), listed.size = ops.size → unl ops.size listed = fuel →
      ((∃ φ, DInv N n ds ops mk big M0 st0 φ0 w0 m R G (fun k => listed.getD k false = true) φ w a) ∨
       (∃ i st M φ, m ≤ i ∧ i ≤ ops.size ∧ (∀ k, listed.getD k false = true ↔ k < i) ∧ (evOps P tt callF ops.toList (ops.toList.drop i) st M).holds Q Qp ∧ StOk N n ds φ M w st a ∧ Ext φ0 M0 w0 φ M w)) →
      wpAny P .any ops QX fuel listed a w := by
  have hbit : ∀ i k, Nat.testBit (2 ^ i - 1) k = true ↔ k < i := fun i k => by rw [Nat.testBit_two_pow_sub_one]; simp
  intro fuel
  induction fuel with
  | zero =>
    intro listed a w hsz hu hinv
    have hallL := unl_zero hu
    have hr : Region.ready .any ops listed = [] := by
      rw [List.eq_nil_iff_forall_not_mem]
      intro i hi
      rw [mem_ready] at hi
      obtain ⟨h1, o, ho, _⟩ := hi
      have hlt : i < ops.size := (Array.getElem?_eq_some_iff.1 ho).1
      rw [hallL i hlt] at h1; cases h1
    refine ⟨hr, ?_⟩
    have hinv2 : ∃ st M φ, (evOps P tt callF ops.toList [] st M).holds Q Qp ∧ StOk N n ds φ M w st a ∧ Ext φ0 M0 w0 φ M w := by
      rcases hinv with ⟨φ, h⟩ | ⟨i, st, M, φ, h1, h2, h3, h4, h5, h6⟩
      · have hm2 : m = ops.size := by
          rcases Nat.lt_or_ge m ops.size with h1 | h1
          · have := h.im m (by rw [← getD_tf hsz h1]; exact hallL m h1); omega
          · omega
        obtain ⟨h1, h2⟩ := h.finish hbig gok (fun k hk => by rw [← getD_tf hsz (by omega)]; exact hallL k (by omega))
        obtain ⟨φ', st', M', e1, e2, e3⟩ := hend φ a w h1 h2 (fun t ht => h.i4 t fun k o hk ho => ht k o (h.im k hk) ho)
        have hdrop : ops.toList.drop m = [] := by rw [hm2]; simp
        rw [hdrop] at e1
        exact ⟨st', M', φ', e1, e2, e3⟩
      · have hi : i = ops.size := by
          rcases Nat.lt_or_ge i ops.size with h7 | h7
          · have := (h3 i).1 (by rw [← getD_tf hsz h7]; exact hallL i h7); omega
          · omega
        refine ⟨st, M, φ, ?_, h5, h6⟩
        have hdrop : ops.toList.drop i = [] := by rw [hi]; simp
        rw [hdrop] at h4; exact h4
    obtain ⟨st, M, φ, h1, h2, h3⟩ := hinv2
    exact hq φ M w st a h1 h2 h3
  | succ fuel ih =>
    intro listed a w hsz hu hinv
    -- if the first part is done, go on with the second
    have hinv' : ((∃ φ, DInv N n ds ops mk big M0 st0 φ0 w0 m R G (fun k => listed.getD k false = true) φ w a) ∧ ∃ k, k < m ∧ listed.getD k false = false) ∨
       (∃ i st M φ, m ≤ i ∧ i ≤ ops.size ∧ (∀ k, listed.getD k false = true ↔ k < i) ∧ (evOps P tt callF ops.toList (ops.toList.drop i) st M).holds Q Qp ∧ StOk N n ds φ M w st a ∧ Ext φ0 M0 w0 φ M w) := by
      rcases hinv with ⟨φ, h⟩ | h
      · by_cases hex : ∃ k, k < m ∧ listed.getD k false = false
        · exact .inl ⟨⟨φ, h⟩, hex⟩
        · right
          have hl : ∀ k, k < m → listed.getD k false = true := fun k hk => by
            cases hb : listed.getD k false with
            | true => rfl
            | false => exact (hex ⟨k, hk, hb⟩).elim
          obtain ⟨h1, h2⟩ := h.finish hbig gok hl
          obtain ⟨φ', st', M', e1, e2, e3⟩ := hend φ a w h1 h2 (fun t ht => h.i4 t fun k o hk ho => ht k o (h.im k hk) ho)
          exact ⟨m, st', M', φ', Nat.le_refl _, hms, fun k => ⟨fun hk => h.im k hk, fun hk => hl k hk⟩, e1, e2, e3⟩
      · exact .inr h
    clear hinv
    have hcl : ∀ i, i ∈ Region.ready .any ops listed → (∀ k, listed.getD k false = true → ∀ i, Nat.testBit (mk k) i = true → listed.getD i false = true) → ∀ k, Nat.testBit (mk i) k = true → listed.getD k false = true := by
      intro i hi hclosed k hk
      rw [mem_ready] at hi
      obtain ⟨_, o, ho, he⟩ := hi
      obtain ⟨e, hee, hb, hh⟩ := hm.via i o (by simpa using ho) k hk
      rcases hh with hh | rfl
      · exact hclosed _ (he e hee hb) k hh
      · exact he e hee hb
    have hfirst : ∀ i, i < ops.size → listed.getD i false = false → (∀ k, k < i → listed.getD k false = true) → i ∈ Region.ready .any ops listed := by
      intro i hi hni hlt
      rw [mem_ready]
      have ho : ops[i]? = some ops[i] := Array.getElem?_eq_getElem hi
      refine ⟨by rw [getD_tf hsz hi]; exact hni, _, ho, fun e he hb => hlt e.on ?_⟩
      exact hm.lt i e.on (hm.edge i _ (by simpa using ho) e he hb)
    have hleast : ∀ k, listed.getD k false = false → ∃ i, i ≤ k ∧ listed.getD i false = false ∧ ∀ q, q < i → listed.getD q false = true := by
      intro k
      induction k using Nat.strongRecOn with
      | _ k ihk =>
        intro hk
        by_cases hex : ∃ q, q < k ∧ listed.getD q false = false
        · obtain ⟨q, hq1, hq2⟩ := hex
          obtain ⟨i, h1, h2, h3⟩ := ihk q hq1 hq2
          exact ⟨i, by omega, h2, h3⟩
        · refine ⟨k, Nat.le_refl _, hk, fun q hq => ?_⟩
          cases hb : listed.getD q false with
          | true => rfl
          | false => exact (hex ⟨q, hq, hb⟩).elim
    have hset : ∀ i, i < ops.size → ∀ k, (listed.setIfInBounds i true).getD k false = true ↔ listed.getD k false = true ∨ k = i := by
      intro i hi k
      by_cases e : k = i
      · subst e; simp [hsz, hi]
      · rw [getD_set_ne false (Ne.symm e)]; simp [e]
    rcases hinv' with ⟨⟨φ, h⟩, k0, hk0, hk1⟩ | ⟨i0, st, M, φ, hmi, his, hlist, hev, hst, hext⟩
    · obtain ⟨i1, hi1a, hi1b, hi1c⟩ := hleast k0 hk1
      have hi1r := hfirst i1 (by omega) hi1b hi1c
      by_cases hpu : PureAt ops mk st0 R G i1
      · obtain ⟨o, ho, hGu, hp1, hp2⟩ := hpu
        have hap := pv0_spec hp1
        have hanc := hcl i1 hi1r h.cl
        obtain ⟨_, ⟨xr, hop, hRx⟩, hnext⟩ | ⟨hf, _⟩ := hR i1 o (by omega) ho
        case inr => obtain ⟨t, x, y, id, r, c, e, rs, cells, _, _, _, _, _, _, hG, _⟩ := hf.ex; rw [hGu] at hG; cases hG
        obtain ⟨v, hy, hgood⟩ := pw_yields tok (ops := ops) (h.repA hm hbig hanc) (h.tmpsA hm hd hanc (by rw [hi1b]; simp)) (fun p hp d hd' => by rw [h.size]; exact (hall p hp).1 d hd') hp2 hop
        have hlt : i1 < ops.size := by omega
        have hoo := hall o (by rw [Array.mem_toList_iff]; exact Array.mem_of_getElem? ho)
        obtain ⟨φn, hn⟩ := h.after hm hd hbig (by omega) ho hoo.1 (by rw [hi1b]; simp) hanc hnext gok hGu (by rw [hRx]; exact hgood.topN _)
        refine wpAny_first ho (Region.noSelect_spec hsel) (fun c a w hx => hQ _ _ c a w hx) fuel listed a w ?_ hi1r hy ?_
        · intro j oj hj hji hun hno
          refine hap j oj hj ?_ hno
          rcases Nat.lt_or_ge i1 j with h1 | h1
          · exact h1
          · have h2 := hi1c j (by omega)
            rw [← getD_tf hsz (by omega), hun] at h2; cases h2
        · refine ih _ _ w (by simpa using hsz) ?_ (.inl ⟨φn, ?_⟩)
          · have := unl_set hlt hsz (by rw [getD_tf hsz hlt]; exact hi1b); omega
          · have e : (fun k => (listed.setIfInBounds i1 true).getD k false = true) = fun k => listed.getD k false = true ∨ k = i1 := by
              funext k; exact propext (hset i1 hlt k)
            rw [e]; exact hn
      refine ⟨fun hr => ?_, fun i hi => ?_⟩
      · rw [hr] at hi1r; cases hi1r
      · have hanc := hcl i hi h.cl
        have hi' := hi
        rw [mem_ready] at hi'
        obtain ⟨hni, o, ho, _⟩ := hi'
        have hlt : i < ops.size := (Array.getElem?_eq_some_iff.1 ho).1
        rw [getD_tf hsz hlt] at hni
        have him : i < m := by
          rcases Nat.lt_or_ge i m with h1 | h1
          · exact h1
          · rcases hsp i h1 hlt i1 (by omega) with h2 | ⟨_, h2⟩
            · have := hanc i1 h2
              rw [hi1b] at this; cases this
            · exact (hpu h2).elim
        have stp : ∀ K : Act → World → Prop, (∀ φn w' a', DInv N n ds ops mk big M0 st0 φ0 w0 m R G (fun k => listed.getD k false = true ∨ k = i) φn w' a' → K a' w') → wpOp P ops QX i K a w := by
          intro K hK
          rcases hR i o him ho with ⟨hGi, ⟨xr, hop, hRx⟩, hnext⟩ | ⟨hf, hRi⟩
          · exact draw_step tok hc hall hm hd hbig h him ho (by rw [hni]; simp) hanc hop hRx hnext gok hGi hK
          · exact draw_stepS tok hm hd hbig gok h him ho (by rw [hni]; simp) hanc hf hRi hK
        refine stp _ ?_
        intro φn w' a' hn
        refine ih _ a' w' (by simpa using hsz) ?_ (.inl ⟨φn, ?_⟩)
        · have := unl_set hlt hsz (by rw [getD_tf hsz hlt]; exact hni); omega
        · have e : (fun k => (listed.setIfInBounds i true).getD k false = true) = fun k => listed.getD k false = true ∨ k = i := by
            funext k; exact propext (hset i hlt k)
          rw [e]; exact hn
    · refine ⟨fun hr => ?_, fun i hi => ?_⟩
      · have hi0 : i0 = ops.size := by
          rcases Nat.lt_or_ge i0 ops.size with h7 | h7
          · have hni : listed.getD i0 false = false := by
              cases hb : listed.getD i0 false with
              | false => rfl
              | true => have := (hlist i0).1 hb; omega
            have := hfirst i0 h7 hni (fun k hk => (hlist k).2 hk)
            rw [hr] at this; cases this
          · omega
        have hdrop : ops.toList.drop i0 = [] := by rw [hi0]; simp
        rw [hdrop] at hev
        exact hq φ M w st a hev hst hext
      · have hanc := hcl i hi (fun k hk q hq => (hlist q).2 (by have h1 := (hlist k).1 hk; have h2 := hm.lt _ _ hq; omega))
        have hi' := hi
        rw [mem_ready] at hi'
        obtain ⟨hni, o, ho, _⟩ := hi'
        have hlt : i < ops.size := (Array.getElem?_eq_some_iff.1 ho).1
        rw [getD_tf hsz hlt] at hni
        have hii : i = i0 := by
          have h1 : ¬ i < i0 := fun h => by rw [(hlist i).2 h] at hni; cases hni
          rcases Nat.lt_or_ge i0 i with h2 | h2
          · rcases hsp i (by omega) hlt i0 h2 with h4 | ⟨h4, _⟩
            · have := (hlist i0).1 (hanc i0 h4); omega
            · omega
          · omega
        subst hii
        have hcons : ops.toList.drop i = o :: ops.toList.drop (i + 1) := by
          have hl : i < ops.toList.length := by simpa using hlt
          rw [List.drop_eq_getElem_cons hl]
          congr 1
          have : ops.toList[i]? = some o := by simpa using ho
          rw [List.getElem?_eq_getElem hl] at this
          exact Option.some.inj this
        rw [hcons] at hev
        have hmem : o ∈ ops.toList := by rw [Array.mem_toList_iff]; exact Array.mem_of_getElem? ho
        have := evOps_step tok hc hall hev (hall o hmem) hst (K := wpAny P .any ops QX fuel (listed.setIfInBounds i true)) (QX := QX) (fun φ' M' w' st' a' h1 h2 h3 => by
          refine ih _ a' w' (by simpa using hsz) ?_ (.inr ⟨i + 1, st', M', φ', by omega, by omega, fun k => ?_, h1, h2, hext.trans h3⟩)
          · have := unl_set hlt hsz (by rw [getD_tf hsz hlt]; exact hni); omega
          · rw [hset i hlt k, hlist k]; omega) (hp.step hext)
        unfold wpOp
        simp only [ho]
        exact this

end
end Go.Eng
