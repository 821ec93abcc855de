/- An evaluator of the code of the model, and lemmas of its proof of soundness: what it tells of a call, the call does; no condition but those that each lemma names. -/
import Derived.Test.YtiokhipgpfeoeaaEng6e
set_option linter.all false
set_option linter.deprecated false
set_option autoImplicit false
namespace Go.Eng
open Go Go.RowKit

theorem objOf_ok {N : Nat} {φ φ' : Phi} {w w' : World} {id : Nat} {el : TypeId} {rs n : Nat} {c : AC} {vs : List Value} {p : Pl} (hp : φ' id = some (some p)) (h0 : p.o = 0 ∧ p.spot = none) (hrs : p.rs = rs) (hb : OwnBlock w' p.b el (p.k * rs)) (hok : okC rs n c = true) (hn : n ≤ p.k)
    (hle : PhiLe φ φ') (hs : SameBelow N w w') (h : ACRel N φ w rs n vs c) (hv : ∀ j u, vs[j]? = some u → w'.cell? ⟨p.b, j, none⟩ = some u) : ObjRel N φ' w' id (objOf el rs c) := by
  subst hrs
  cases c with
  | cells l =>
    obtain ⟨_, h2⟩ := Bool.and_eq_true_iff.1 (show (allLeaf l && Nat.beq l.length (n * p.rs)) = true from hok)
    have h2 : l.length = n * p.rs := Nat.eq_of_beq_eq_true h2
    refine ⟨p, hp, h0, rfl, hb, by rw [h2]; exact Nat.mul_le_mul_right _ hn, fun j a ha => ?_⟩
    obtain ⟨y, hy, hrel⟩ := AVsRel.get h j a ha
    exact ⟨y, hv j y hy, hrel.mono hle⟩
  | cols m cols =>
    obtain ⟨h1, h2⟩ := Bool.and_eq_true_iff.1 (show (Nat.beq m n && Nat.beq cols.length p.rs) = true from hok)
    have h2 : cols.length = p.rs := Nat.eq_of_beq_eq_true h2
    obtain ⟨rfl, hl, hc⟩ := h
    refine ⟨hl, p, hp, h0, h2.symm, by rw [h2]; exact hb, hn, fun j hj i col hi => ?_⟩
    obtain ⟨z, hz, hrel⟩ := hc j hj i col hi
    refine ⟨z, ?_, hrel.same hs⟩
    have := hv _ z hz
    rw [at_eq p h0.2, h0.1]
    simpa using this

theorem size_setCells (w : World) (b : Nat) (vs : List Value) : ∀ o, (w.setCells b o vs).heap.size = w.heap.size := by
  induction vs generalizing w with
  | nil => intro o; rfl
  | cons v vs ih => intro o; rw [World.setCells, ih]; simp [World.setCell]
theorem tape_setCells (w : World) (b : Nat) (vs : List Value) : ∀ o, (w.setCells b o vs).tape = w.tape := by
  induction vs generalizing w with
  | nil => intro o; rfl
  | cons v vs ih => intro o; rw [World.setCells, ih]; rfl
theorem ownBlock_setCells {w : World} {b : Nat} {e : TypeId} {k : Nat} (h : OwnBlock w b e k) (vs : List Value) : ∀ o, OwnBlock (w.setCells b o vs) b e k := by
  induction vs generalizing w with
  | nil => intro o; exact h
  | cons v vs ih =>
    intro o
    rw [World.setCells]
    refine ih ?_ _
    obtain ⟨cur, f, h1, h2, h3⟩ := h
    exact ⟨_, f, setCell_block w b o v cur e _ h1, by simpa using h2, h3⟩
/-- What is appended. -/
structure SrcA (P : Program) (N : Nat) (φ : Phi) (w : World) (size : Nat) (tx : TypeId) (y : Value) (m : Nat) (news : List Value) (c : AC) : Prop where
  src : Src P size tx y m news w
  rel : ACRel N φ w size m news c

theorem appNil_ok {P : Program} {t tx ty el : TypeId} {ti : TI} (ht : P.underlying t = some (.slice el)) (te : TIok P el ti) {N : Nat} {φ : Phi} {M : Mem} {w : World} (hr : Rep N φ M w) {m : Nat} {s : AV} {A : Option Addr} {y : Value} {news : List Value} {c : AC}
    (hs : AVRel φ s (.slice A 0 0)) (hc : SrcA P N φ w ti.size tx y m news c) {Q : AV × Mem → Prop} {Qp : AV → Mem → Prop} (h : (appNil ti M el m s c).holds Q Qp) :
    ∃ z w', (Builtin.append_ #[t, tx] ty #[.slice A 0 0, y]).run P w = .ok z w' ∧ Good N φ M w Q z w' := by
  obtain ⟨i, z, hi, hsz, hby, hz, hzz, hzs⟩ := te.info
  rw [← hsz] at hc
  obtain ⟨h1, h2⟩ := h
  cases hb : Nat.beq m 0 with
  | true =>
    have hm : m = 0 := Nat.eq_of_beq_eq_true hb
    subst hm
    refine ⟨_, _, ?_, .here hr (h1 hb) hs⟩
    have hnews : news = [] := List.length_eq_zero_iff.1 (by rw [hc.src.newsLen]; simp)
    subst hnews
    rcases hc.src.kind with ⟨e', hk⟩ | hk <;> cases A <;> simp [Builtin.append_, run_underlying ht, run_underlying hk, sizeOf, typeInfo, hi, hc.src.len, hc.src.cells, Go.storeCells]
  | false =>
    have hm : m ≠ 0 := Nat.ne_of_beq_eq_false hb
    obtain ⟨hro, h⟩ := br_ok (h2 hb)
    obtain ⟨hb0, hfit⟩ := Bool.and_eq_true_iff.1 hro
    have hb0 : 0 < ti.bytes := Nat.le_of_ble_eq_true hb0
    have hfit : m * ti.bytes ≤ 140737488355328 := Nat.le_of_ble_eq_true hfit
    obtain ⟨d, hd, h⟩ := onO_ok h
    obtain ⟨hok, hq⟩ := br_ok h
    have hrel : ACRel N φ w ti.size m news d := normC_ok (by rw [← hsz]; exact hc.rel) hd
    have hm1 : m ≤ m * ti.bytes := Nat.le_mul_of_pos_right m hb0
    have hrun := run_append_grow_src (P := P) w t tx ty el i z ht hi hz A 0 0 [] (by
      cases A with
      | none => exact run_firstCells_none _ _ _ _ _
      | some a => simpa using run_firstCells_some (P := P) w.drew i.size 0 a 0 0 [] (by simp) (by simp)) y m news hc.src (by omega) (by omega) (by rw [Nat.zero_add, hby]; exact growslice_fits (by omega) hfit)
    have hge := grownCap_ge w (0 + m) 0 el
    refine ⟨_, _, hrun, ?_⟩
    have key := (hr.draw).newOwn (objOf el ti.size d) (.cells (([] ++ news).toArray ++ Builtin.zeroCells z.cells (grownCap w (0 + m) 0 el - (0 + m))) el) ⟨w.heap.size, 0, ti.size, grownCap w (0 + m) 0 el, none⟩ rfl (by
      refine objOf_ok (φ := φ) (w := w) (p := ⟨w.heap.size, 0, ti.size, grownCap w (0 + m) 0 el, none⟩) (updP_self ..) ⟨rfl, rfl⟩ rfl ⟨_, _, alloc_new _ _, ?_, .inl rfl⟩ hok (by simpa using hge) (updP_le _ (hr.fresh _ (Nat.le_refl _)).2) (fun b hb => push_same w.drew _ b (Nat.lt_of_lt_of_le hb hr.size)) hrel fun j u hu => ?_
      · simp only [Array.size_append, List.size_toArray, size_zeroCells, List.nil_append, hc.src.newsLen, hzs, hsz]
        rw [← Nat.add_mul]
        congr 1
        omega
      · have hj := (List.getElem?_eq_some_iff.1 hu).1
        show (w.drew.alloc _).cell? ⟨w.drew.heap.size, j, none⟩ = some u
        simp only [World.cell?, alloc_new]
        rw [Array.getElem?_append_left (by simpa using hj)]
        simpa using hu)
    refine ⟨_, _, _, hq, ?_, key.1, (Ext.draw φ M w).trans key.2⟩
    have := AVRel.sl (φ := updP φ M.next (some ⟨w.heap.size, 0, ti.size, grownCap w (0 + m) 0 el, none⟩)) M.next 0 m none _ (grownCap w (0 + m) 0 el) (updP_self ..) (fun h => by cases h) (fun c h => by cases h) (by omega) (fun p h => by cases h; simp) (fun p h _ => by cases h; rfl)
    simpa [Pl.at] using this

theorem appOwn_ok {P : Program} {t tx ty el : TypeId} {ti : TI} (ht : P.underlying t = some (.slice el)) (te : TIok P el ti) {N : Nat} {φ : Phi} {M : Mem} {w : World} (hr : Rep N φ M w) {m id n cc : Nat} {x : Option Pl} {y : Value} {news : List Value} {c : AC}
    (hx : φ id = some x) (hrs : ∀ p, φ id = some (some p) → p.rs = ti.size) (hle : n ≤ cc) (hk : ∀ p, x = some p → cc ≤ p.k) (hc : SrcA P N φ w ti.size tx y m news c) {Q : AV × Mem → Prop} {Qp : AV → Mem → Prop} (h : (appOwn ti M el id n m c).holds Q Qp) :
    ∃ z w', (Builtin.append_ #[t, tx] ty #[.slice (x.map fun p => p.at 0 0) n cc, y]).run P w = .ok z w' ∧ Good N φ M w Q z w' := by
  obtain ⟨i, z, hi, hsz, hby, hz, hzz, hzs⟩ := te.info
  have hkey : (appOwn.appOwn1 ti M el id n m c).holds Q Qp ∧ isOwn (M.get id) ∧ ∃ p, x = some p ∧ (p.o = 0 ∧ p.spot = none) ∧ OwnBlock w p.b el (p.k * ti.size) := by
    have ho := hr.objs id
    unfold appOwn at h
    cases hg : M.get id with
    | dead => rw [hg] at h; exact h.elim
    | ro => rw [hg] at h; exact h.elim
    | own e rs cells =>
      rw [hg] at ho h
      obtain ⟨he, h⟩ := br_ok (show (T.br (Nat.beq e el) (appOwn.appOwn1 ti M el id n m c) .fail).holds Q Qp from h)
      have he : e = el := Nat.eq_of_beq_eq_true he
      subst he
      obtain ⟨q, hq, h1, h2, h3, _⟩ := ho
      have h5 := hrs q hq
      rw [hx] at hq; cases hq
      exact ⟨h, trivial, q, rfl, h1, by rw [← h5, h2]; exact h3⟩
    | vec e k cols =>
      rw [hg] at ho h
      obtain ⟨he, h⟩ := br_ok (show (T.br (Nat.beq e el) (appOwn.appOwn1 ti M el id n m c) .fail).holds Q Qp from h)
      have he : e = el := Nat.eq_of_beq_eq_true he
      subst he
      obtain ⟨_, q, hq, h1, h2, h3, _⟩ := ho
      have h5 := hrs q hq
      rw [hx] at hq; cases hq
      exact ⟨h, trivial, q, rfl, h1, by rw [← h5, h2]; exact h3⟩
  clear h
  obtain ⟨h, hown, p, rfl, hpo, hblk⟩ := hkey
  have hps := hrs p hx
  have hk := hk p rfl
  obtain ⟨hl, h⟩ := br_ok h
  have hl : M.lock ≤ id := Nat.le_of_ble_eq_true hl
  obtain ⟨d, olds, h, hol, hdrel, hone, hcells⟩ := acOf_ok hr hx hrs (fun e => by cases e) h
  have hcells := hcells p rfl
  obtain ⟨hro, h⟩ := br_ok h
  obtain ⟨hb0, hfit⟩ := Bool.and_eq_true_iff.1 hro
  have hb0 : 0 < ti.bytes := Nat.le_of_ble_eq_true hb0
  have hfit : (n + m) * ti.bytes ≤ 140737488355328 := Nat.le_of_ble_eq_true hfit
  obtain ⟨d', hd', h⟩ := onO_ok h
  obtain ⟨c', hc', h⟩ := onO_ok h
  obtain ⟨j, hj, h⟩ := onO_ok h
  obtain ⟨hok, hq⟩ := br_ok h
  have hrel : ACRel N φ w ti.size (n + m) (olds ++ news) j := joinC_ok hol (normC_ok hdrel hd') (normC_ok hc.rel hc') hj
  have hnl : news.length = m * ti.size := hc.src.newsLen
  have hm1 : n + m ≤ (n + m) * ti.bytes := Nat.le_mul_of_pos_right _ hb0
  have hadd : ∀ k, (p.at 0 0).add k = ⟨p.b, k, none⟩ := by intro k; rw [at_add p hpo.2, at_eq p hpo.2, hpo.1]; simp
  have hA : p.at 0 0 = ⟨p.b, 0, none⟩ := by rw [at_eq p hpo.2, hpo.1]; simp
  by_cases hroom : n + m ≤ cc
  · have hkk : (n + m) * ti.size ≤ p.k * ti.size := Nat.mul_le_mul_right _ (by omega)
    rw [Nat.add_mul] at hkk
    have hsome : ∀ j, j < news.length → (w.cell? ⟨p.b, n * ti.size + j, none⟩).isSome = true := fun j hj => hblk.cellSome (by omega)
    have hsrc := hc.src
    rw [← hsz] at hsrc
    have hrun := run_append_room_src (P := P) w t tx ty el i ht hi p.b 0 n cc y m news hsrc hroom (fun j hj => by rw [hsz, Nat.zero_add]; exact hsome j hj) (fun j hj => by rw [hsz, Nat.zero_add]; exact hblk.free (by omega))
    simp only [Option.map_some, hA]
    refine ⟨_, _, hrun, ?_⟩
    rw [hsz, Nat.zero_add]
    have hoth : ∀ b, b < w.heap.size → b ≠ p.b → (w.setCells p.b (n * ti.size) news).heap[b]? = w.heap[b]? := fun b hb hne => World.heap_setCells_other w p.b _ news hb hne
    have hkept := World.keptBut_setCells p.b (may := fun _ => True) news (n * ti.size) w (fun _ _ => trivial)
    have hsize : (w.setCells p.b (n * ti.size) news).heap.size = w.heap.size := size_setCells ..
    have hN := hr.high id p hown hx
    have key := hr.regrow hown hx hl (w' := w.setCells p.b (n * ti.size) news) (objOf el ti.size j) hsize (World.os_setCells ..) (tape_setCells ..) (World.output_setCells ..) hoth (by
      refine objOf_ok (φ := φ) (w := w) (updP_self ..) hpo hps ?_ hok (by omega) (updP_le _ (hr.fresh _ (Nat.le_refl _)).2) (fun b hb => hoth b (Nat.lt_of_lt_of_le hb hr.size) (by omega)) hrel fun k u hu => ?_
      · exact ownBlock_setCells hblk _ _
      · by_cases hk' : k < n * ti.size
        · rw [World.cell?_setCells_out p.b _ _ _ _ (fun _ _ => .inl hk')]
          rw [List.getElem?_append_left (by omega)] at hu
          rw [← hadd]
          exact hcells k u hu
        · have hlt := (List.getElem?_eq_some_iff.1 hu).1
          rw [List.length_append] at hlt
          have := World.cell?_setCells_in p.b news (n * ti.size) w hsome (k - n * ti.size) (by omega)
          rw [show n * ti.size + (k - n * ti.size) = k by omega] at this
          rw [this]
          rw [List.getElem?_append_right (by omega), hol, List.getElem?_eq_getElem (by omega)] at hu
          exact hu)
    refine ⟨_, _, _, hq, ?_, key.1, key.2⟩
    have := AVRel.sl (φ := updP φ M.next (some p)) M.next 0 (n + m) none _ cc (updP_self ..) (fun h => by cases h) (fun c h => by cases h) hroom (fun q h => by cases h; simpa using hk) (fun q h _ => by cases h; exact hpo.2)
    simp only [Option.map_some, hA] at this
    exact this
  · have hsrc := hc.src
    rw [← hsz] at hsrc
    have hrun := run_append_grow_src (P := P) w t tx ty el i z ht hi hz (some (p.at 0 0)) n cc olds (by
      exact run_firstCells_some (P := P) w.drew i.size n (p.at 0 0) n cc olds (by rw [hol, hsz]) (by simpa using hcells)) y m news hsrc (by omega) (by omega) (by rw [hby]; exact growslice_fits (by omega) hfit)
    have hge := grownCap_ge w (n + m) cc el
    refine ⟨_, _, hrun, ?_⟩
    have hkill := hr.kill id
    have key := (hkill.1.draw).newOwn (objOf el ti.size j) (.cells ((olds ++ news).toArray ++ Builtin.zeroCells z.cells (grownCap w (n + m) cc el - (n + m))) el) ⟨w.heap.size, 0, ti.size, grownCap w (n + m) cc el, none⟩ rfl (by
      refine objOf_ok (φ := φ) (w := w) (p := ⟨w.heap.size, 0, ti.size, grownCap w (n + m) cc el, none⟩) (updP_self ..) ⟨rfl, rfl⟩ rfl ⟨_, _, alloc_new _ _, ?_, .inl rfl⟩ hok hge (updP_le _ (hr.fresh _ (Nat.le_refl _)).2) (fun b hb => push_same w.drew _ b (Nat.lt_of_lt_of_le hb hr.size)) hrel fun j u hu => ?_
      · simp only [Array.size_append, List.size_toArray, size_zeroCells, List.length_append, hol, hnl, hzs]
        rw [← Nat.add_mul, ← Nat.add_mul]
        congr 1
        omega
      · have hj := (List.getElem?_eq_some_iff.1 hu).1
        show (w.drew.alloc _).cell? ⟨w.drew.heap.size, j, none⟩ = some u
        simp only [World.cell?, alloc_new]
        rw [Array.getElem?_append_left (by simpa using hj)]
        simpa using hu)
    refine ⟨_, _, _, hq, ?_, key.1, hkill.2.trans ((Ext.draw φ _ w).trans key.2)⟩
    have := AVRel.sl (φ := updP φ (M.set id .dead).next (some ⟨w.heap.size, 0, ti.size, grownCap w (n + m) cc el, none⟩)) M.next 0 (n + m) none _ (grownCap w (n + m) cc el) (updP_self ..) (fun h => by cases h) (fun c h => by cases h) hge (fun p h => by cases h; simp) (fun p h _ => by cases h; rfl)
    simpa [Pl.at] using this
end Go.Eng
