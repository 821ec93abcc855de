/- An evaluator of the code of the model, and lemmas of its proof of soundness: what it tells of a call, the call does; no condition but those that each lemma names. -/
import Derived.Test.YtiokhipgpfeoeaaEng6
set_option linter.all false
set_option linter.deprecated false
set_option autoImplicit false
namespace Go.Eng
open Go Go.RowKit

theorem zero_rel {φ : Phi} (zs : List Value) : AVsRel φ (zs.map lift1) zs := by
  have := AVsRel.map (φ := φ) zs lift1 id fun x _ => lift1_rel φ x
  simpa using this

theorem evOp_ok {P : Program} {K : Ctx} (hP : K.P = P) (tok : TTok P K.tt) {N : Nat} (hc : CallsOk P N K.callF) {φ : Phi} {w : World} (hr : Rep N φ K.M w) {a : Act} (hst : TmpsRel φ K.st a.tmps)
    (o : Oper) {Q : AV × Mem → Prop} {Qp : AV → Mem → Prop} (h : (evOp K o.op).holds Q Qp) (hsrc : ∀ s d x, o.op = .convert s d x → ∃ e, P.underlying s = some e) : Out P N φ K.M w Q Qp (execOp a.eval o) := by
  obtain ⟨P', tt, callF, M, st⟩ := K
  simp only at hP tok hc hr hst
  subst hP
  unfold execOp
  cases ho : o.op with
  | move x => rw [ho] at h; exact .inl ⟨_, w, .inl rfl, .here hr h (evA_rel hst x)⟩
  | assign x => rw [ho] at h; exact .inl ⟨_, w, .inl rfl, .here hr h (evA_rel hst x)⟩
  | pick c x y =>
    rw [ho] at h
    obtain ⟨b, hb, h⟩ := onB_ok (show (onB (evA st c) fun t => .br t (.ret (evA st x, M)) (.ret (evA st y, M))).holds Q Qp from h)
    have hv := evA_rel hst c
    rw [hb] at hv
    generalize hgv : a.eval c = cv at hv
    cases hv
    obtain ⟨h1, h2⟩ := h
    cases b with
    | true => exact .inl ⟨a.eval x, w, .inl (by simp [hgv, asBool]), .here hr (h1 rfl) (evA_rel hst x)⟩
    | false => exact .inl ⟨a.eval y, w, .inl (by simp [hgv, asBool]), .here hr (h2 rfl) (evA_rel hst y)⟩
  | alloc e =>
    rw [ho] at h
    obtain ⟨hb, h⟩ := onK_both (show (onK (tt e).u (newOwn M e (tt e).size (tt e).zero) (newOwn M e (tt e).size (tt e).zero)).holds Q Qp from h)
    obtain ⟨i, z, hi, hs, _, hz, hzz, _⟩ := (tok e hb).info
    have hrel : AVsRel φ (tt e).zero z.cells.toList := by rw [← hzz]; exact zero_rel _
    obtain ⟨v, w', hrun, hg⟩ := newOwn_ok (P := P') hr hrel h
    exact .val (by simpa [Instr.alloc, zeroValue, typeInfo, hi, hz, newVar] using hrun) hg
  | box e x =>
    rw [ho] at h
    have h : (newOwn M e (evA st x).cells.length (evA st x).cells).holds Q Qp := h
    have hv := evA_rel hst x
    have hl : allLeaf (evA st x).cells = true := (Bool.and_eq_true_iff.1 (br_ok h).1).1
    have hrel := hv.cells (by intro e; rw [e] at hl; cases hl) (by
      intro y e; rw [e] at hl
      have := allLeaf_ok hl (.v y) (by simp [AV.cells])
      exact this)
    obtain ⟨v, w', hrun, hg⟩ := newOwn_ok (P := P') hr hrel h
    exact .val (by simpa [Instr.box, newVar] using hrun) hg
  | build t ps =>
    rw [ho] at h
    obtain ⟨z, hrun, hg⟩ := evBuild_ok tok hr hst (show (evBuild tt (tt t) M st ps.toList).holds Q Qp from h)
    exact .val hrun hg
  | buildSlice t n ps =>
    rw [ho] at h
    obtain ⟨z, w', hrun, hg⟩ := evBuildSlice_ok tok hr hst (show (evBuildSlice tt (tt t).u M st n ps.toList).holds Q Qp from h)
    exact .val hrun hg
  | slice t x lo hi mx =>
    rw [ho] at h
    obtain ⟨z, hrun, hg⟩ := evSlice_ok tok hr hst (show (evSlice tt (tt t).u M st (evA st x) lo hi mx).holds Q Qp from h)
    exact .val hrun hg
  | load t x =>
    rw [ho] at h
    obtain ⟨z, hrun, hg⟩ := evLoad_ok tok hr (evA_rel hst x) (show (evLoad (tt t) M (evA st x)).holds Q Qp from h)
    exact .val hrun hg
  | store t x y =>
    rw [ho] at h
    obtain ⟨id, r, c, hx, h⟩ := onPtr_ok (show (evStore (tt t) M (evA st x) (evA st y)).holds Q Qp from h)
    obtain ⟨hb, h⟩ := onK_both h
    obtain ⟨hn, h⟩ := br_ok h
    rw [T.holds_bind] at h
    have hv := evA_rel hst x
    rw [hx] at hv
    generalize hgv : a.eval x = xv at hv
    have hy := evA_rel hst y
    cases hv with
    | ptr _ _ _ p hp hps =>
      have hlen : (evA st y).cells.length = (tt t).size := Nat.eq_of_beq_eq_true hn
      by_cases htop : evA st y = .top ∨ ∃ v, evA st y = .v v ∧ leafV v = false
      · -- a cell that is no leaf is not stored
        exfalso
        have key : ∀ x, leafA x = false → ∀ l c M, (storeCells id r (x :: l) M c).holds (fun M => Q (.v undef, M)) Qp → False := by
          intro x hx l c M h
          have h' : ((storeCell M id r c x).bind fun M => storeCells id r l M (c + 1)).holds (fun M => Q (.v undef, M)) Qp := h
          rw [T.holds_bind] at h'
          unfold storeCell at h'
          cases hg : M.get id with
          | own e rs cells =>
            rw [hg] at h'
            have := (ck_ok (ck_ok h').2).1
            rw [hx] at this; cases this
          | _ => rw [hg] at h'; exact h'.elim
        rcases htop with e | ⟨v, e, hv⟩
        · rw [e] at h; exact key .top rfl [] _ _ h
        · rw [e] at h; exact key (.v v) hv [] _ _ h
      · have hrel := hy.cells (fun e => htop (.inl e)) (fun v e => by
          cases hl : leafV v with
          | true => rfl
          | false => exact (htop (.inr ⟨v, e, hl⟩)).elim)
        obtain ⟨w', M', hrun, hq, hr', he⟩ := storeCells_ok (P := P') hp hps _ hrel 0 hr h
        refine .inl ⟨undef, w', .inr ⟨?_, rfl⟩, φ, .v undef, M', hq, .v _, hr', he⟩
        have hsz : (a.eval y).cells.size = (tt t).size := by rw [← hlen, hrel.length, Array.length_toList]
        simp [Instr.storeAt, Instr.sureAddr, hgv, storeVar, run_sizeOf' (tok t hb), hsz, hrun]
  | nilCheck x =>
    rw [ho] at h
    obtain ⟨id, r, c, hx, h⟩ := onPtr_ok (show (onPtr (evA st x) fun id r c => .ret (.ptr id r c, M)).holds Q Qp from h)
    have hv := evA_rel hst x
    rw [hx] at hv
    generalize hgv : a.eval x = xv at hv
    cases hv with
    | ptr _ _ _ p hp hps => exact .inl ⟨_, w, .inl (by simp only [hgv]; rfl), .here hr h (.ptr _ _ _ _ hp hps)⟩
  | binOp op t x y yt =>
    rw [ho] at h
    obtain ⟨hb, h⟩ := onK_both (show (onK (tt t).u (evBin P' tt M op t x y (evA st x) (evA st y)) (evBin P' tt M op t x y (evA st x) (evA st y))).holds Q Qp from h)
    obtain ⟨z, hrun, hg⟩ := evBin_ok tok hr hb (x := x) (y := y) (evA_rel hst x) (evA_rel hst y) h
    exact .val hrun hg
  | unOp op t x =>
    rw [ho] at h
    exact .ofVal hr (unA_ok (evA_rel hst x) (retM_ok (show (retM M (unA P' op (evA st x))).holds Q Qp from h)))
  | convert s d x =>
    rw [ho] at h
    rcases onK_ok (show (onK (tt d).u .fail (evConv P' tt M s d (evA st x))).holds Q Qp from h) with ⟨_, _, h⟩ | ⟨hb, _, h⟩
    · exact h.elim
    · obtain ⟨z, w', hrun, hg⟩ := evConv_ok tok hr hb (hsrc s d x ho) (evA_rel hst x) h
      exact .val hrun hg
  | fieldAddr t x f =>
    rw [ho] at h
    obtain ⟨z, hrun, hg⟩ := evFieldAddr_ok tok hr (evA_rel hst x) (show (evFieldAddr (tt t).u M (evA st x) f).holds Q Qp from h)
    exact .val hrun hg
  | field t x f =>
    rw [ho] at h
    obtain ⟨z, hrun, hg⟩ := evField_ok tok hr (evA_rel hst x) (show (evField tt (tt t).u M (evA st x) f).holds Q Qp from h)
    exact .val hrun hg
  | indexAddr t x ix =>
    rw [ho] at h
    obtain ⟨z, hrun, hg⟩ := evIndexAddr_ok tok hr (evA_rel hst x) (evA_rel hst ix) (show (evIndexAddr tt (tt t).u M (evA st x) (evA st ix)).holds Q Qp from h)
    exact .val hrun hg
  | index t x ix =>
    rw [ho] at h
    obtain ⟨z, hrun, hg⟩ := evIndex_ok tok hr (evA_rel hst x) (evA_rel hst ix) (show (evIndex tt (tt t).u M (evA st x) (evA st ix)).holds Q Qp from h)
    exact .val hrun hg
  | extract t ix =>
    rw [ho] at h
    obtain ⟨l, hl, h⟩ := onTup_ok (show (onTup (evA st t) fun l => (sel l ix).bind fun v => .ret (v, M)).holds Q Qp from h)
    rw [T.holds_bind] at h
    obtain ⟨v, hv, hq⟩ := sel_ok h
    have ht := evA_rel hst t
    rw [hl] at ht
    generalize hgv : a.eval t = tv at ht
    cases ht with
    | tup _ vs hrel =>
      obtain ⟨z, hz, hzr⟩ := hrel.get _ _ hv
      have hz : vs[ix]? = some z := by simpa using hz
      exact .val (s := Instr.extract (a.eval t) ix) (z := z) (w' := w) (by simp [hgv, Instr.extract, hz]) (.here hr hq hzr)
  | call c => rw [ho] at h; exact evCall_ok tok hc hr hst (show (evCall tt callF M st c).holds Q Qp from h)
  | panic x =>
    rw [ho] at h
    have h : (evPanic M (evA st x)).holds Q Qp := h
    have hv := evA_rel hst x
    generalize hgv : a.eval x = xv at hv
    generalize evA st x = y at h hv
    cases hv with
    | v =>
      obtain ⟨h1, h2⟩ := br_ok (show (T.br (isIface xv) (.pan (.v xv) M) .fail).holds Q Qp from h)
      cases xv <;> first | (cases h1; done) | skip
      refine .inr (.inl ⟨_, w, by simp [hgv, Instr.panic, goPanic, Sem.run], φ, _, M, h2, .v _, hr, .refl _ _ _⟩)
    | ifc t x z hz => exact .inr (.inl ⟨_, w, by simp [hgv, Instr.panic, goPanic, Sem.run], φ, _, M, h, .ifc _ _ _ hz, hr, .refl _ _ _⟩)
    | _ => exact h.elim
  | makeInterface t x =>
    rw [ho] at h
    obtain ⟨hb, hi, h⟩ := onC_ok (show (onC (tt t).u (mkIfc M t (evA st x))).holds Q Qp from h)
    obtain ⟨d, hd, hni⟩ := concrete (tok t hb) hb hi
    have hrun : ∀ z, (Instr.makeInterface t z).run P' w = .ok (.iface t z) w := by
      intro z
      cases d <;> first | (exact absurd rfl (hni _)) | simp [Instr.makeInterface, run_underlying hd]
    have hv := evA_rel hst x
    generalize hgv : a.eval x = xv at hv
    generalize evA st x = y at h hv
    refine Out.val (by rw [hgv]; exact hrun xv) ?_
    cases hv with
    | i k n => exact .here hr h (.v _)
    | b n => exact .here hr h (.v _)
    | s n => exact .here hr h (.v _)
    | v => exact .here hr h (.v _)
    | ptr id r c p hp hps => exact .here hr h (.ifc _ _ _ (.ptr _ _ _ _ hp hps))
    | agg l vs hrel =>
      obtain ⟨us, hus, hq⟩ := onO_ok h
      have : ∀ (l : List AV) (us zs : List Value), plainL l = some us → AVsRel φ l zs → zs = us := by
        intro l
        induction l with
        | nil => intro us zs h hz; cases hz; exact Option.some.inj h
        | cons x l ih =>
          intro us zs h hz
          cases hz with
          | cons hx ht =>
            have h' : (@Option.rec (List Value) (fun _ => Option (List Value)) none (fun r => @AV.casesOn (fun _ => Option (List Value)) x (fun k n => some (.int k n :: r)) (fun b => some (.bool b :: r)) (fun s => some (.string s :: r)) (fun v => some (v :: r))
              (fun _ _ _ => none) (fun _ _ _ _ => none) none (fun _ => none) (fun _ _ => none) (fun _ _ => none) (fun _ => none) (fun _ => none) none) (plainL l)) = some us := h
            cases hp : plainL l with
            | none => rw [hp] at h'; cases h'
            | some r =>
              rw [hp] at h'
              have := ih _ _ hp ht
              subst this
              cases hx <;> first | (cases h'; done) | (exact Option.some.inj h')
      have e := this l us vs.toList hus hrel
      have e : us.toArray = vs := by rw [← e]
      rw [e] at hq
      exact .here hr hq (.v _)
    | _ => exact h.elim
  | _ => rw [ho] at h; exact h.elim
end Go.Eng
