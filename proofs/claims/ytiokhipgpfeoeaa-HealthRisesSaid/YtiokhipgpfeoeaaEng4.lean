/- An evaluator of the code of the model, and lemmas of its proof of soundness: what it tells of a call, the call does; no condition but those that each lemma names. -/
import Derived.Test.YtiokhipgpfeoeaaEng3
set_option linter.all false
set_option linter.deprecated false
set_option autoImplicit false
namespace Go.Eng
open Go Go.RowKit

/-! ## Types -/
theorem at_eq (p : Pl) (hs : p.spot = none) (r c : Nat) : p.at r c = ⟨p.b, p.o + (r * p.rs + c), none⟩ := by unfold Pl.at; rw [hs]
def leafD : TypeDesc → Bool
  | .struct _ => false
  | .array _ _ => false
  | .interface _ => false
  | _ => true
def UndOk (P : Program) (t : TypeId) : Und → Prop
  | .sl e => P.underlying t = some (.slice e)
  | .arr n e => P.underlying t = some (.array n e)
  | .st fs => ∃ fds : Array Field, P.underlying t = some (.struct fds) ∧ fs = fds.toList.map (fun f => (f.offset, f.type, P.cellsOf f.type)) ∧ ∀ f ∈ fds.toList, (P.info? f.type).isSome = true
  | .str => P.underlying t = some .string
  | .leaf => ∃ d, P.underlying t = some d ∧ leafD d = true
  | .ifc => ∃ ms, P.underlying t = some (.interface ms)
  | .bad => True
def KindOk (P : Program) (t : TypeId) : CK → Prop
  | .int k => P.underlying t = some (.int k)
  | .str => P.underlying t = some .string
  | .bool => P.underlying t = some .bool
  | .flt => P.underlying t = some (.float .f64)
  | .ptr => ∃ e, P.underlying t = some (.pointer e)
  | .mp => ∃ k e, P.underlying t = some (.map k e)
  | .fnc => ∃ a b c, P.underlying t = some (.func a b c)
  | .other => True
structure TIok (P : Program) (t : TypeId) (ti : TI) : Prop where
  info : ∃ i z, P.info? t = some i ∧ i.size = ti.size ∧ i.bytes = ti.bytes ∧ i.zero = some z ∧ z.cells.toList.map lift1 = ti.zero ∧ z.cells.size = ti.size
  und : UndOk P t ti.u
  kind : KindOk P t ti.kind
  cmp : ti.cmp = true → P.stoodInHeld t = false ∧ P.eqGuardType P.depth t = false ∧ ∀ fds : Array Field, P.underlying t = some (.struct fds) → ∀ f ∈ fds.toList, f.name ≠ "_"
def TTok (P : Program) (tt : TT) : Prop := ∀ t, (tt t).u ≠ .bad → TIok P t (tt t)

theorem onK_ok {β : Type} {u : Und} {a l : T β} {Q : β → Prop} {Qp : AV → Mem → Prop} (h : (onK u a l).holds Q Qp) : u ≠ .bad ∧ ((∃ n e, u = .arr n e) ∨ (∃ fs, u = .st fs)) ∧ a.holds Q Qp ∨ u ≠ .bad ∧ ((∃ e, u = .sl e) ∨ u = .str ∨ u = .leaf ∨ u = .ifc) ∧ l.holds Q Qp := by
  cases u with
  | sl e => exact .inr ⟨by simp, .inl ⟨e, rfl⟩, h⟩
  | arr n e => exact .inl ⟨by simp, .inl ⟨n, e, rfl⟩, h⟩
  | st fs => exact .inl ⟨by simp, .inr ⟨fs, rfl⟩, h⟩
  | str => exact .inr ⟨by simp, .inr (.inl rfl), h⟩
  | leaf => exact .inr ⟨by simp, .inr (.inr (.inl rfl)), h⟩
  | ifc => exact .inr ⟨by simp, .inr (.inr (.inr rfl)), h⟩
  | bad => exact h.elim
theorem onK_both {β : Type} {u : Und} {a : T β} {Q : β → Prop} {Qp : AV → Mem → Prop} (h : (onK u a a).holds Q Qp) : u ≠ .bad ∧ a.holds Q Qp := by
  rcases onK_ok h with ⟨h1, _, h2⟩ | ⟨h1, _, h2⟩ <;> exact ⟨h1, h2⟩
theorem run_sizeOf' {P : Program} {t : TypeId} {ti : TI} (h : TIok P t ti) (w : World) : (sizeOf t).run P w = .ok ti.size w := by
  obtain ⟨i, z, hi, hs, _⟩ := h.info
  simp [sizeOf, typeInfo, hi, hs]
theorem cellsOf_eq {P : Program} {t : TypeId} {ti : TI} (h : TIok P t ti) : P.cellsOf t = ti.size := by
  obtain ⟨i, z, hi, hs, _⟩ := h.info
  simp [Program.cellsOf, hi, hs]
theorem run_isAgg_true {P : Program} {t : TypeId} {ti : TI} (h : TIok P t ti) (hu : (∃ n e, ti.u = .arr n e) ∨ (∃ fs, ti.u = .st fs)) (w : World) : (isAgg t).run P w = .ok true w := by
  have := h.und
  rcases hu with ⟨n, e, hu⟩ | ⟨fs, hu⟩ <;> rw [hu] at this
  · simp only [UndOk] at this; simp [isAgg, run_underlying this]
  · obtain ⟨fds, hf, _⟩ := this; simp [isAgg, run_underlying hf]
theorem run_isAgg_false {P : Program} {t : TypeId} {ti : TI} (h : TIok P t ti) (hu : (∃ e, ti.u = .sl e) ∨ ti.u = .str ∨ ti.u = .leaf ∨ ti.u = .ifc) (w : World) : (isAgg t).run P w = .ok false w := by
  have := h.und
  rcases hu with ⟨e, hu⟩ | hu | hu | hu <;> rw [hu] at this
  · simp only [UndOk] at this; simp [isAgg, run_underlying this]
  · simp only [UndOk] at this; simp [isAgg, run_underlying this]
  · obtain ⟨d, hd, hl⟩ := this
    cases d <;> simp [leafD] at hl <;> simp [isAgg, run_underlying hd]
  · obtain ⟨ms, hd⟩ := this; simp [isAgg, run_underlying hd]

theorem at_add (p : Pl) (hs : p.spot = none) (r c j : Nat) : (p.at r c).add j = p.at r (c + j) := by
  unfold Pl.at Addr.add
  rw [hs]
  split
  · rename_i h; subst h; rfl
  · simp; omega

theorem onC_ok {β : Type} {u : Und} {l : T β} {Q : β → Prop} {Qp : AV → Mem → Prop} (h : (onC u l).holds Q Qp) : u ≠ .bad ∧ u ≠ .ifc ∧ l.holds Q Qp := by
  cases u <;> first | exact h.elim | exact ⟨by simp, by simp, h⟩
theorem concrete {P : Program} {t : TypeId} {ti : TI} (h : TIok P t ti) (hb : ti.u ≠ .bad) (hi : ti.u ≠ .ifc) : ∃ d, P.underlying t = some d ∧ ∀ ms, d ≠ .interface ms := by
  have hu := h.und
  cases e : ti.u with
  | sl el => rw [e] at hu; exact ⟨_, hu, by simp⟩
  | arr n el => rw [e] at hu; exact ⟨_, hu, by simp⟩
  | st fs => rw [e] at hu; obtain ⟨fds, hf, _⟩ := hu; exact ⟨_, hf, by simp⟩
  | str => rw [e] at hu; exact ⟨_, hu, by simp⟩
  | leaf => rw [e] at hu; obtain ⟨d, hd, hl⟩ := hu; exact ⟨d, hd, by intro ms h; subst h; simp [leafD] at hl⟩
  | ifc => exact (hi e).elim
  | bad => exact (hb e).elim

/-! ## Loads -/
theorem loadCells_ok {N : Nat} {w : World} {id r : Nat} {p : Pl} (n : Nat) : ∀ {φ : Phi} {M : Mem} (_ : Rep N φ M w) (_ : φ id = some (some p)) {c : Nat} {Q : List AV × Mem → Prop} {Qp : AV → Mem → Prop}
    (_ : (loadCells id r n M c).holds Q Qp), ∃ zs : List Value, zs.length = n ∧ (∀ j v, zs[j]? = some v → w.cell? (p.at r (c + j)) = some v) ∧ ∃ φ' l M', Q (l, M') ∧ AVsRel φ' l zs ∧ Rep N φ' M' w ∧ Ext φ M w φ' M' w := by
  induction n with
  | zero => intro φ M hr hp c Q Qp h; exact ⟨[], rfl, by simp, φ, [], M, h, .nil, hr, .refl _ _ _⟩
  | succ n ih =>
    intro φ M hr hp c Q Qp h
    have h' : ((loadCell M id r c).bind fun x => (loadCells id r n x.2 (c + 1)).bind fun y => .ret (x.1 :: y.1, y.2)).holds Q Qp := h
    rw [T.holds_bind] at h'
    obtain ⟨z, hz, φ1, x, M1, hq, hx, hr1, he1⟩ := loadCell_ok hr hp h'
    simp only [T.holds_bind] at hq
    obtain ⟨zs, hl, hc, φ2, l, M2, hq2, hl2, hr2, he2⟩ := ih hr1 (he1.phi _ _ hp) hq
    refine ⟨z :: zs, by simp [hl], ?_, φ2, x :: l, M2, hq2, .cons (hx.mono he2.phi) hl2, hr2, he1.trans he2⟩
    intro j v hj
    cases j with
    | zero => simp at hj; subst hj; simpa using hz
    | succ j => simp at hj; have := hc j v hj; rwa [show c + 1 + j = c + (j + 1) by omega] at this

theorem evLoad_ok {P : Program} {tt : TT} (tok : TTok P tt) {N : Nat} {φ : Phi} {M : Mem} {w : World} (hr : Rep N φ M w) {t : TypeId} {x : AV} {y : Value} (hx : AVRel φ x y) {Q : AV × Mem → Prop} {Qp : AV → Mem → Prop}
    (h : (evLoad (tt t) M x).holds Q Qp) : ∃ z, (Instr.loadAt t y).run P w = .ok z w ∧ Good N φ M w Q z w := by
  cases hx with
  | ptr id r c p hp hps =>
    have h' : (evLoad1 (tt t) M id r c).holds Q Qp := h
    rcases onK_ok h' with ⟨hb, hu, h1⟩ | ⟨hb, hu, h1⟩
    · have ti := tok t hb
      rw [T.holds_bind] at h1
      obtain ⟨zs, hl, hc, φ', l, M', hq, hrel, hr', he⟩ := loadCells_ok _ hr hp h1
      refine ⟨.agg zs.toArray, ?_, φ', .agg l, M', hq, .agg _ _ (by simpa using hrel), hr', he⟩
      have := run_loadCells_list (P := P) (w := w) (p.at r c) zs (fun j v hj => by rw [at_add _ hps]; exact hc j v hj)
      rw [hl] at this
      simp [Instr.loadAt, Instr.sureAddr, loadVar, run_isAgg_true ti hu, run_sizeOf' ti, this]
    · have ti := tok t hb
      obtain ⟨z, hz, hg⟩ := loadCell_ok hr hp h1
      refine ⟨z, ?_, hg⟩
      simp [Instr.loadAt, Instr.sureAddr, loadVar, run_isAgg_false ti hu, hz]
  | _ => exact h.elim

/-! ## Stores -/
theorem leafA_one {φ : Phi} {x : AV} {z : Value} (h : leafA x = true) (hz : AVRel φ x z) : z.oneCell' = true := by
  cases hz with
  | v => cases z <;> first | rfl | exact absurd h (by simp [leafA, leafV])
  | agg => exact absurd h (by simp [leafA])
  | tup => exact absurd h (by simp [leafA])
  | top => exact absurd h (by simp [leafA])
  | _ => rfl

theorem setCell_other_block (w : World) (a : Addr) (z : Value) (b : Nat) (h : a.block ≠ b) : (w.setCell a z).heap[b]? = w.heap[b]? := by
  simp only [World.setCell, Array.getElem?_modify, if_neg h]
theorem setCell_block (w : World) (b o : Nat) (z : Value) (cur : Array Value) (e : TypeId) (f : Nat × Nat) (h : w.heap[b]? = some (.cells cur e f)) :
    (w.setCell ⟨b, o, none⟩ z).heap[b]? = some (.cells (cur.setIfInBounds o z) e f) := by
  simp [World.setCell, Array.getElem?_modify, h]

theorem storeCell_ok {P : Program} {N : Nat} {φ : Phi} {M : Mem} {w : World} (hr : Rep N φ M w) {id r c : Nat} {p : Pl} (hp : φ id = some (some p)) {x : AV} {z : Value} (hx : AVRel φ x z)
    {Q : Mem → Prop} {Qp : AV → Mem → Prop} (h : (storeCell M id r c x).holds Q Qp) :
    (store (p.at r c) z).run P w = .ok () (w.setCell (p.at r c) z) ∧ ∃ M', Q M' ∧ Rep N φ M' (w.setCell (p.at r c) z) ∧ Ext φ M w φ M' (w.setCell (p.at r c) z) := by
  have ho := hr.objs id
  unfold storeCell at h
  cases hg : M.get id with
  | dead => rw [hg] at h; exact h.elim
  | ro nil n cols => rw [hg] at h; exact h.elim
  | vec elem n cols => rw [hg] at h; exact h.elim
  | own elem rs cells =>
    rw [hg] at h ho
    obtain ⟨hb, hc, hq0⟩ := h
    cases hbb : Nat.ble M.lock id with
    | false => rw [hbb] at hb; cases hb
    | true =>
      cases hcc : leafA x && Nat.blt (r * rs + c) cells.length with
      | false => rw [hcc] at hc; cases hc
      | true =>
        have hq : Q (M.set id (.own elem rs (cells.set (r * rs + c) x))) := hq0
        obtain ⟨hl, hlt⟩ := Bool.and_eq_true_iff.1 hc
        have hlt : r * rs + c < cells.length := Nat.le_of_ble_eq_true hlt
        have hlock : M.lock ≤ id := Nat.le_of_ble_eq_true hb
        obtain ⟨q, hq', ⟨h0, hps⟩, h1', hown, hlen, hcell⟩ := ho
        rw [hp] at hq'; cases hq'
        have hat : p.at r c = ⟨p.b, r * rs + c, none⟩ := by simp [Pl.at, h0, h1', hps]
        have hone := leafA_one hl hx
        obtain ⟨z0, hz0, _⟩ := hcell (r * rs + c) _ (List.getElem?_eq_getElem hlt)
        have hfree := hown.free (Nat.lt_of_lt_of_le hlt hlen)
        rw [hat]
        obtain ⟨cur, fz, hcur, hsz, hfz⟩ := hown
        have hblk := setCell_block w p.b (r * rs + c) z cur elem fz hcur
        refine ⟨by rw [run_store P w _ z _ hone, hz0]; simp [hfree], _, hq, ⟨fun id' => ?_, fun i1 i2 p1 p2 ho1 ho2 hp1 hp2 e => ?_, fun i1 p1 ho1 hp1 => ?_, fun i1 hi1 => ?_, by simpa using hr.size⟩,
          ⟨.refl _, fun _ _ => rfl, Nat.le_refl _, rfl, rfl, rfl, rfl, by simp, fun b hb hno => ?_, fun i1 p1 ho1 hp1 hb => ?_⟩⟩
        · simp only [Mem.get_set]
          split
          · rename_i e; subst e
            refine ⟨p, hp, ⟨h0, hps⟩, h1', ⟨_, fz, hblk, by simpa using hsz, hfz⟩, by simpa using hlen, fun j a ha => ?_⟩
            by_cases hj : j = r * rs + c
            · subst hj
              rw [List.getElem?_set_self hlt] at ha
              cases ha
              exact ⟨z, World.cell?_setCell_same _ _ _ hz0, hx⟩
            · rw [List.getElem?_set_ne (Ne.symm hj)] at ha
              obtain ⟨z1, hz1, hr1⟩ := hcell j a ha
              exact ⟨z1, (World.cell?_setCell_other _ _ _ _ (by intro e; injection e with _ e; exact hj e.symm)).trans hz1, hr1⟩
          · rename_i hne
            refine (hr.objs id').step (.refl _) (fun b hb => setCell_other_block _ _ _ _ ?_) (fun ho' p' hp' => setCell_other_block _ _ _ _ ?_)
            · have := hr.high id p (by rw [hg]; trivial) hp
              show p.b ≠ b; omega
            · intro e
              exact hne (hr.sep id' id p' p ho' (by rw [hg]; trivial) hp' hp e.symm)
        · have k1 : isOwn (M.get i1) := by
            simp only [Mem.get_set] at ho1; split at ho1
            · rename_i e; rw [e, hg]; trivial
            · exact ho1
          have k2 : isOwn (M.get i2) := by
            simp only [Mem.get_set] at ho2; split at ho2
            · rename_i e; rw [e, hg]; trivial
            · exact ho2
          exact hr.sep i1 i2 p1 p2 k1 k2 hp1 hp2 e
        · have k1 : isOwn (M.get i1) := by
            simp only [Mem.get_set] at ho1; split at ho1
            · rename_i e; rw [e, hg]; trivial
            · exact ho1
          exact hr.high i1 p1 k1 hp1
        · simp only [Mem.next_set] at hi1
          obtain ⟨f1, f2⟩ := hr.fresh i1 hi1
          simp only [Mem.get_set]
          split
          · rename_i e; subst e; rw [hp] at f2; cases f2
          · exact ⟨f1, f2⟩
        · exact setCell_other_block _ _ _ _ (hno id p hlock (by rw [hg]; trivial) hp)
        · have k1 : isOwn (M.get i1) := by
            simp only [Mem.get_set] at ho1; split at ho1
            · rename_i e; rw [e, hg]; trivial
            · exact ho1
          exact ⟨i1, p1, k1, hp1, rfl, fun h => h⟩

theorem storeCells_ok {P : Program} {N : Nat} {id r : Nat} {p : Pl} {φ : Phi} (hp : φ id = some (some p)) (hps : p.spot = none) (l : List AV) : ∀ {zs : List Value} (_ : AVsRel φ l zs) (i : Nat) {M : Mem} {w : World} (_ : Rep N φ M w) {c : Nat}
    {Q : Mem → Prop} {Qp : AV → Mem → Prop} (_ : (storeCells id r l M (c + i)).holds Q Qp),
    ∃ w' M', (Go.storeCells (p.at r c) zs i).run P w = .ok () w' ∧ Q M' ∧ Rep N φ M' w' ∧ Ext φ M w φ M' w' := by
  induction l with
  | nil => intro zs hz i M w hr c Q Qp h; cases hz; exact ⟨w, M, rfl, h, hr, .refl _ _ _⟩
  | cons x l ih =>
    intro zs hz i M w hr c Q Qp h
    cases hz with
    | cons hx ht =>
      rename_i z zs
      have h' : ((storeCell M id r (c + i) x).bind fun M => storeCells id r l M (c + i + 1)).holds Q Qp := h
      rw [T.holds_bind] at h'
      obtain ⟨hrun, M1, hq, hr1, he1⟩ := storeCell_ok (P := P) hr hp hx h'
      rw [show c + i + 1 = c + (i + 1) by omega] at hq
      obtain ⟨w2, M2, hrun2, hq2, hr2, he2⟩ := ih ht (i + 1) hr1 hq
      refine ⟨w2, M2, ?_, hq2, hr2, he1.trans he2⟩
      rw [Go.storeCells]
      simp only [at_add p hps, Sem.run_bind, hrun, Result.andThen_ok]
      exact hrun2

theorem AVRel.cells {φ : Phi} {x : AV} {z : Value} (h : AVRel φ x z) (ht : x ≠ .top) (hv : ∀ y, x = .v y → leafV y = true) : AVsRel φ x.cells z.cells.toList := by
  cases h with
  | agg l a h => exact h
  | top => exact (ht rfl).elim
  | v =>
    have := hv z rfl
    cases z <;> first | (simp [leafV] at this; done) | exact .cons (.v _) .nil
  | i => exact .cons (.i _ _) .nil
  | b => exact .cons (.b _) .nil
  | s => exact .cons (.s _) .nil
  | ptr id r c p hp hps => exact .cons (.ptr _ _ _ _ hp hps) .nil
  | sl id r n cap x cc h1 h2 h3 h4 h5 h6 => exact .cons (.sl _ _ _ _ _ _ h1 h2 h3 h4 h5 h6) .nil
  | e => exact .cons (.e _ _) .nil
  | mp id p hp => exact .cons (.mp _ _ hp) .nil
  | fn f l a h => exact .cons (.fn _ _ _ h) .nil
  | ifc t x y h => exact .cons (.ifc _ _ _ h) .nil
  | tup l a h => exact .cons (.tup _ _ h) .nil
end Go.Eng
