/- An evaluator of the code of the model, and lemmas of its proof of soundness: what it tells of a call, the call does; no condition but those that each lemma names. -/
import Derived.Test.YtiokhipgpfeoeaaEng6b
set_option linter.all false
set_option linter.deprecated false
set_option autoImplicit false
namespace Go.Eng
open Go Go.RowKit

/-! ## Pieces -/
theorem optI_ok {φ : Phi} {st : Tmps} {a : Act} (hst : TmpsRel φ st a.tmps) {o : Option Operand} {d : Int} {k : Int → T (AV × Mem)} {Q : AV × Mem → Prop} {Qp : AV → Mem → Prop} (h : (optI st o d k).holds Q Qp) :
    ∃ i, (k i).holds Q Qp ∧ ((o = none ∧ i = d) ∨ ∃ x kk, o = some x ∧ a.eval x = .int kk i) := by
  cases o with
  | none => exact ⟨d, h, .inl ⟨rfl, rfl⟩⟩
  | some x =>
    obtain ⟨kk, i, hx, h⟩ := onI_ok (show (onI (evA st x) fun _ i => k i).holds Q Qp from h)
    have := evA_rel hst x
    rw [hx] at this
    exact ⟨i, h, .inr ⟨x, kk, rfl, idx_ok this⟩⟩

/-- The bounds of a piece, as the machine reckons them. -/
theorem sliceBounds_run {P : Program} {w : World} {a : Act} {isS : Bool} {len cap : Nat} {lo hi : Option Operand} {l h : Int} (hl : (lo = none ∧ l = 0) ∨ ∃ x kk, lo = some x ∧ a.eval x = .int kk l) (hh : (hi = none ∧ h = len) ∨ ∃ x kk, hi = some x ∧ a.eval x = .int kk h)
    (h0 : 0 ≤ h) (h1 : h ≤ (cap : Int)) (l0 : 0 ≤ l) (l1 : l ≤ h) : (Instr.sliceBounds isS len cap (lo.map a.eval) (hi.map a.eval) none).run P w = .ok (l.toNat, h.toNat, cap) w := by
  have key : ∀ (x : Operand) (kk : IntKind) (i : Int) (y : Nat) (code : BoundsCode), a.eval x = .int kk i → 0 ≤ i → i ≤ (y : Int) → (Instr.sliceBound (a.eval x) y code).run P w = .ok i.toNat w := by
    intro x kk i y code e h0 h1
    simp [Instr.sliceBound, e, asIntOf, h0, h1]
  have hhn : ((h.toNat : Nat) : Int) = h := Int.toNat_of_nonneg h0
  rcases hl with ⟨rfl, rfl⟩ | ⟨x, kk, rfl, e⟩ <;> rcases hh with ⟨rfl, rfl⟩ | ⟨x', kk', rfl, e'⟩
  · simp [Instr.sliceBounds]
  · simp [Instr.sliceBounds, key x' kk' h cap _ e' h0 h1]
  · simp [Instr.sliceBounds, key x kk l len _ e l0 l1]
  · simp [Instr.sliceBounds, key x' kk' h cap _ e' h0 h1, key x kk l h.toNat _ e l0 (by omega)]

theorem nilSl_ok {β : Type} {v : Value} {t : T β} {Q : β → Prop} {Qp : AV → Mem → Prop} (h : (nilSl v t).holds Q Qp) : v = .slice none 0 0 ∧ t.holds Q Qp := by
  unfold nilSl at h
  split at h
  · exact ⟨rfl, h⟩
  · exact h.elim

theorem evSlice_ok {P : Program} {tt : TT} (tok : TTok P tt) {N : Nat} {φ : Phi} {M : Mem} {w : World} (hr : Rep N φ M w) {st : Tmps} {a : Act} (hst : TmpsRel φ st a.tmps) {t : TypeId} {x : Operand} {lo hi mx : Option Operand}
    {Q : AV × Mem → Prop} {Qp : AV → Mem → Prop} (h : (evSlice tt (tt t).u M st (evA st x) lo hi mx).holds Q Qp) :
    ∃ z, (Instr.sliceAt t (a.eval x) (lo.map a.eval) (hi.map a.eval) (mx.map a.eval)).run P w = .ok z w ∧ Good N φ M w Q z w := by
  have hx := evA_rel hst x
  cases hu : (tt t).u with
  | str =>
    rw [hu] at h
    have ti := (tok t (by rw [hu]; simp)).und
    rw [hu] at ti
    have ti : P.underlying t = some .string := ti
    cases mx with
    | some m => exact h.elim
    | none =>
      obtain ⟨s, hs, h⟩ := onS_ok (show (onS (evA st x) fun s => optI st lo 0 fun l => optI st hi s.size fun h => slStr M s l h).holds Q Qp from h)
      rw [hs] at hx
      generalize hgv : a.eval x = xv at hx
      cases hx
      obtain ⟨l, h, hl⟩ := optI_ok hst h
      obtain ⟨hh, h, hhi⟩ := optI_ok hst h
      obtain ⟨c1, h⟩ := br_ok (show (T.br (decide (0 ≤ hh)) (.br (decide (hh ≤ (s.size : Int))) (.br (decide (0 ≤ l)) (.br (decide (l ≤ hh)) (.ret (.s (s.extract l.toNat hh.toNat), M)) .fail) .fail) .fail) .fail).holds Q Qp from h)
      obtain ⟨c2, h⟩ := br_ok h
      obtain ⟨c3, h⟩ := br_ok h
      obtain ⟨c4, h⟩ := br_ok h
      simp only [decide_eq_true_eq] at c1 c2 c3 c4
      refine ⟨.string (s.extract l.toNat hh.toNat), ?_, .here hr h (.s _)⟩
      simp [Instr.sliceAt, Instr.slice, run_underlying ti, sliceBounds_run hl hhi c1 c2 c3 c4]
  | sl el =>
    rw [hu] at h
    have ti := (tok t (by rw [hu]; simp)).und
    rw [hu] at ti
    have ti : P.underlying t = some (.slice el) := ti
    have h : (slOf tt M st el (evA st x) lo hi mx).holds Q Qp := h
    generalize hgv : a.eval x = xv at hx
    generalize evA st x = xa at hx h
    cases hx with
    | v =>
      obtain ⟨rfl, h⟩ := nilSl_ok (show (nilSl xv (onK (tt el).u (slNilA M st lo hi mx) (slNilA M st lo hi mx))).holds Q Qp from h)
      obtain ⟨hb, h⟩ := onK_both h
      have te := tok el hb
      cases mx with
      | some m => exact h.elim
      | none =>
        obtain ⟨l, h, hl⟩ := optI_ok hst (show (optI st lo 0 fun l => optI st hi 0 fun h => slNil M l h 0).holds Q Qp from h)
        obtain ⟨hh, h, hhi⟩ := optI_ok hst h
        obtain ⟨c1, h5⟩ := br_ok h
        clear h
        simp only [Bool.and_eq_true, beq_iff_eq] at c1
        obtain ⟨rfl, rfl, _⟩ := c1
        refine ⟨.slice none 0 0, ?_, .here hr h5 (.v _)⟩
        simp [Instr.sliceAt, Instr.slice, run_underlying ti, sliceBounds_run (len := 0) (cap := 0) hl hhi (Int.le_refl _) (Int.le_refl _) (Int.le_refl _) (Int.le_refl _), run_sizeOf' te]
    | sl id r n cap pl cc hp hz hc hle hk hs =>
      cases mx with
      | none =>
        obtain ⟨l, h, hl⟩ := optI_ok hst (show (optI st lo 0 fun l => optI st hi n fun h => onK (tt el).u (slSl M (tt el).size id r n cap l h) (slSl M (tt el).size id r n cap l h)).holds Q Qp from h)
        obtain ⟨hh, h, hhi⟩ := optI_ok hst h
        obtain ⟨hb, h⟩ := onK_both h
        have te := tok el hb
        obtain ⟨h, hrs⟩ := rsIs_ok hr h
        obtain ⟨c1, h⟩ := br_ok h
        obtain ⟨c2, h⟩ := br_ok h
        obtain ⟨c3, h⟩ := br_ok h
        obtain ⟨c4, h⟩ := br_ok h
        simp only [decide_eq_true_eq] at c1 c2 c3 c4
        have hrun : (Instr.sliceAt t (.slice (pl.map fun p => p.at r 0) n cc) (lo.map a.eval) (hi.map a.eval) none).run P w = .ok (.slice (if cc = l.toNat then pl.map fun p => p.at r 0 else (pl.map fun p => p.at r 0).map (·.add (l.toNat * (tt el).size))) (hh.toNat - l.toNat) (cc - l.toNat)) w := by
          simp [Instr.sliceAt, Instr.slice, run_underlying ti, sliceBounds_run (len := n) (cap := cc) hl hhi c1 (by omega) c3 c4, run_sizeOf' te]
        refine ⟨_, hrun, ?_⟩
        obtain ⟨h1, h2⟩ := h
        by_cases hl0 : l = 0
        · subst hl0
          have hA : (if cc = (0 : Int).toNat then pl.map fun p => p.at r 0 else (pl.map fun p => p.at r 0).map (·.add ((0 : Int).toNat * (tt el).size))) = pl.map fun p => p.at r 0 := by
            split
            · rfl
            · cases pl with
              | none => rfl
              | some p => simp [Addr.add]
          rw [hA]
          refine .here hr (h1 rfl) ?_
          have := AVRel.sl (φ := φ) id r hh.toNat cap pl cc hp (fun e => by have := hz e; omega) hc (by omega) hk (fun p e hn => hs p e (by omega))
          simpa using this
        · obtain ⟨h3, h4⟩ := h2 (by simpa using hl0)
          have hpos : 0 < n := by omega
          cases pl with
          | none => have := hz rfl; omega
          | some p =>
            by_cases hlt : l < hh
            · rw [if_neg (by omega)]
              refine .here hr (h3 (by simpa using hlt)) ?_
              have hk' := hk p rfl
              have := AVRel.sl (φ := φ) id (r + l.toNat) (hh - l).toNat (capSub cap l.toNat) (some p) (cc - l.toNat) hp (fun e => by cases e) (fun c e => by
                cases cap with
                | none => cases e
                | some c0 => rw [hc c0 rfl]; exact Option.some.inj e) (by omega) (fun q e => by cases e; omega) (fun q e _ => by cases e; exact hs p rfl hpos)
              have e1 : (p.at r 0).add (l.toNat * (tt el).size) = p.at (r + l.toNat) 0 := by
                rw [at_add p (hs p rfl hpos), ← hrs p hp]
                simp [Pl.at, Nat.add_mul]
              simp only [Option.map_some, e1] at this ⊢
              rw [show hh.toNat - l.toNat = (hh - l).toNat by omega]
              exact this
            · have e2 : hh.toNat - l.toNat = 0 := by omega
              rw [e2]
              refine .here hr (h4 (by simpa using hlt)) ?_
              split
              · exact .e _ _
              · exact .e _ _
      | some m =>
        obtain ⟨km, mm, hm, h⟩ := onI_ok (show (onI (evA st m) fun _ m => optI st lo 0 fun l => .br (l == 0) (@Option.rec Operand (fun _ => T (AV × Mem)) .fail (fun h => onI (evA st h) fun _ h => onK (tt el).u (slMax M id r n h m) (slMax M id r n h m)) hi) .fail).holds Q Qp from h)
        obtain ⟨l, h, hl⟩ := optI_ok hst h
        obtain ⟨hl0, h5⟩ := br_ok h
        clear h
        have h := h5
        clear h5
        have hl0 : l = 0 := by simpa using hl0
        subst hl0
        cases hi with
        | none => exact h.elim
        | some hx' =>
          obtain ⟨kh, hh, hhv, h⟩ := onI_ok (show (onI (evA st hx') fun _ h => onK (tt el).u (slMax M id r n h mm) (slMax M id r n h mm)).holds Q Qp from h)
          obtain ⟨hb, h⟩ := onK_both h
          have te := tok el hb
          obtain ⟨c1, h⟩ := br_ok h
          obtain ⟨c2, h⟩ := br_ok h
          obtain ⟨c3, h⟩ := br_ok h
          obtain ⟨c4, h⟩ := br_ok h
          simp only [decide_eq_true_eq] at c1 c2 c3 c4
          have em := evA_rel hst m
          rw [hm] at em
          have em := idx_ok em
          have eh := evA_rel hst hx'
          rw [hhv] at eh
          have eh := idx_ok eh
          have key : ∀ (x : Operand) (kk : IntKind) (i : Int) (y : Nat) (code : BoundsCode), a.eval x = .int kk i → 0 ≤ i → i ≤ (y : Int) → (Instr.sliceBound (a.eval x) y code).run P w = .ok i.toNat w := by
            intro x kk i y code e h0 h1
            simp [Instr.sliceBound, e, asIntOf, h0, h1]
          have hbnd : (Instr.sliceBounds true n cc (lo.map a.eval) (some (a.eval hx')) (some (a.eval m))).run P w = .ok (0, hh.toNat, mm.toNat) w := by
            have k1 := fun code => key m km mm cc code em c1 (by omega)
            have k2 := fun code => key hx' kh hh mm.toNat code eh c3 (by omega)
            rcases hl with ⟨rfl, _⟩ | ⟨xl, kl, rfl, el'⟩
            · simp [Instr.sliceBounds, k1, k2]
            · have k3 := fun code => key xl kl 0 hh.toNat code el' (Int.le_refl _) (by omega)
              simp [Instr.sliceBounds, k1, k2, k3]
          have hrun : (Instr.sliceAt t (.slice (pl.map fun p => p.at r 0) n cc) (lo.map a.eval) (some (a.eval hx')) (some (a.eval m))).run P w = .ok (.slice (if mm.toNat = 0 then pl.map fun p => p.at r 0 else (pl.map fun p => p.at r 0).map (·.add (0 * (tt el).size))) (hh.toNat - 0) (mm.toNat - 0)) w := by
            simp [Instr.sliceAt, Instr.slice, run_underlying ti, hbnd, run_sizeOf' te]
          refine ⟨_, hrun, ?_⟩
          have hA : (if mm.toNat = 0 then pl.map fun p => p.at r 0 else (pl.map fun p => p.at r 0).map (·.add (0 * (tt el).size))) = pl.map fun p => p.at r 0 := by
            split
            · rfl
            · cases pl with
              | none => rfl
              | some p => simp [Addr.add]
          rw [hA]
          refine .here hr h ?_
          exact AVRel.sl (φ := φ) id r hh.toNat (some mm.toNat) pl mm.toNat hp (fun e => by have := hz e; omega) (fun c e => Option.some.inj e) (by omega) (fun q e => by have := hk q e; omega) (fun q e _ => hs q e (by omega))
    | _ => exact h.elim
  | _ => rw [hu] at h; exact h.elim
end Go.Eng
