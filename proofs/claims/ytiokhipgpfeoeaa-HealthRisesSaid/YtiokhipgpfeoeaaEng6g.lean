/- An evaluator of the code of the model, and lemmas of its proof of soundness: what it tells of a call, the call does; no condition but those that each lemma names. -/
import Derived.Test.YtiokhipgpfeoeaaEng6f
set_option linter.all false
set_option linter.deprecated false
set_option autoImplicit false
namespace Go.Eng
open Go Go.RowKit

theorem appTo_ok {P : Program} {t tx ty el : TypeId} {ti : TI} (ht : P.underlying t = some (.slice el)) (te : TIok P el ti) {N : Nat} {φ : Phi} {M : Mem} {w : World} (hr : Rep N φ M w) {m : Nat} {s : AV} {sv y : Value} {news : List Value} {c : AC}
    (hs : AVRel φ s sv) (hc : SrcA P N φ w ti.size tx y m news c) {Q : AV × Mem → Prop} {Qp : AV → Mem → Prop} (h : (appTo ti M el m s c).holds Q Qp) :
    ∃ z w', (Builtin.append_ #[t, tx] ty #[sv, y]).run P w = .ok z w' ∧ Good N φ M w Q z w' := by
  unfold appTo at h
  cases hs with
  | v =>
    obtain ⟨rfl, h⟩ := nilSl_ok (show (nilSl sv (appNil ti M el m (.v sv) c)).holds Q Qp from h)
    exact appNil_ok ht te hr (.v _) hc h
  | sl id r n cap x cc hx h0 hcap hle hk hs =>
    have h : (appSl ti M el m id r n cap c).holds Q Qp := h
    have big : ((T.br (Nat.beq r 0) (rsIs M id ti.size (appOwn ti M el id n m c)) .fail).holds Q Qp) → ∃ z w', (Builtin.append_ #[t, tx] ty #[.slice (x.map fun p => p.at r 0) n cc, y]).run P w = .ok z w' ∧ Good N φ M w Q z w' := by
      intro hh
      obtain ⟨hb, h'⟩ := br_ok hh
      have hb : r = 0 := Nat.eq_of_beq_eq_true hb
      subst hb
      obtain ⟨h', hrs⟩ := rsIs_ok hr h'
      exact appOwn_ok ht te hr hx hrs hle (fun p e => by simpa using hk p e) hc h'
    cases cap with
    | none => exact big h
    | some k =>
      have h : (bif2 (Nat.beq k 0) (appNil ti M el m (.sl id r n (some k)) c) (.br (Nat.beq r 0) (rsIs M id ti.size (appOwn ti M el id n m c)) .fail)).holds Q Qp := h
      rw [bif2_eq] at h
      split at h
      · rename_i hk0
        have hk0 : k = 0 := Nat.eq_of_beq_eq_true hk0
        subst hk0
        have := hcap 0 rfl
        subst this
        have : n = 0 := by omega
        subst this
        exact appNil_ok ht te hr (.sl id r 0 (some 0) x 0 hx h0 hcap hle hk hs) hc h
      · exact big h
  | _ => exact h.elim

theorem evAppend_ok {P : Program} {tt : TT} (tok : TTok P tt) {N : Nat} {φ : Phi} {M : Mem} {w : World} (hr : Rep N φ M w) {t tx ty : TypeId} {s x : AV} {sv y : Value} (hs : AVRel φ s sv) (hx : AVRel φ x y)
    {Q : AV × Mem → Prop} {Qp : AV → Mem → Prop} (h : (evAppend tt M t tx s x).holds Q Qp) : ∃ z w', (Builtin.append_ #[t, tx] ty #[sv, y]).run P w = .ok z w' ∧ Good N φ M w Q z w' := by
  unfold evAppend at h
  cases hu : (tt t).u with
  | sl el =>
    rw [hu] at h
    have ht := (tok t (by rw [hu]; simp)).und
    rw [hu] at ht
    have ht : P.underlying t = some (.slice el) := ht
    obtain ⟨hb, h⟩ := onK_both (show (onK (tt el).u (onK (tt tx).u .fail (appSrc (tt tx).u (tt el) M el s x)) (onK (tt tx).u .fail (appSrc (tt tx).u (tt el) M el s x))).holds Q Qp from h)
    have te := tok el hb
    rcases onK_ok h with ⟨_, _, h⟩ | ⟨hbx, _, h⟩
    · exact h.elim
    have tix := (tok tx hbx).und
    unfold appSrc at h
    cases hux : (tt tx).u with
    | sl e2 =>
      rw [hux] at h tix
      have tix : P.underlying tx = some (.slice e2) := tix
      cases hx with
      | v =>
        obtain ⟨rfl, h⟩ := nilSl_ok (show (nilSl y (appTo (tt el) M el 0 s (.cells []))).holds Q Qp from h)
        exact appTo_ok ht te hr hs ⟨Src.ofNil w tix 0, show ACRel N φ w (tt el).size 0 [] (.cells []) from AVsRel.nil⟩ h
      | sl id r m cap pl cc hp h0 hcap hle hk hss =>
        obtain ⟨h, hrs⟩ := rsIs_ok hr (show (rsIs M id (tt el).size (acOf (M.get id) r m fun c => appTo (tt el) M el m s c)).holds Q Qp from h)
        obtain ⟨c, vs, h, hl, hrel, hone, hcells⟩ := acOf_ok hr hp hrs h0 h
        refine appTo_ok (news := vs) (c := c) ht te hr hs ⟨?_, hrel⟩ h
        cases pl with
        | none =>
          have := h0 rfl
          subst this
          have : vs = [] := List.length_eq_zero_iff.1 (by rw [hl]; simp)
          subst this
          exact Src.ofNil w tix cc
        | some p => exact Src.ofSlice w tix _ m cc vs hl (hcells p rfl) hone
      | _ => exact h.elim
    | str =>
      rw [hux] at h tix
      have tix : P.underlying tx = some .string := tix
      obtain ⟨b, rfl, h⟩ := onS_ok (show (onS x fun b => .br (Nat.beq (tt el).size 1) (appTo (tt el) M el b.size s (.cols b.size [.ci .u8 (bytesCol b)])) .fail).holds Q Qp from h)
      cases hx
      obtain ⟨h1, h⟩ := br_ok h
      have h1 : (tt el).size = 1 := Nat.eq_of_beq_eq_true h1
      have hlen : (bytesCol b).length = b.size := by unfold bytesCol; rw [List.length_map, Array.length_toList]; rfl
      refine appTo_ok (news := byteCells b) (c := .cols b.size [.ci .u8 (bytesCol b)]) ht te hr hs ⟨by rw [h1]; exact Src.ofString w tix b, rfl, fun c col hc => ?_, fun j hj c col hc => ?_⟩ h
      · cases c with
        | zero => simp at hc; subst hc; exact hlen
        | succ c => simp at hc
      · cases c with
        | succ c => simp at hc
        | zero =>
          simp at hc; subst hc
          rw [h1]
          have hj' : j < b.data.toList.length := by rw [Array.length_toList]; exact hj
          refine ⟨.int .u8 (b.data.toList[j]).toNat, ?_, ?_⟩
          · simp only [Nat.mul_one, Nat.add_zero, byteCells, List.getElem?_map, List.getElem?_eq_getElem hj', Option.map_some]
          · have := ColRel.ci (N := N) (w := w) .u8 (bytesCol b) j
            rw [getD_of (x := ((b.data.toList[j]).toNat : Int)) (by simp only [bytesCol, List.getElem?_map, List.getElem?_eq_getElem hj', Option.map_some])] at this
            exact this
    | _ => rw [hux] at h; exact h.elim
  | _ => rw [hu] at h; exact h.elim
end Go.Eng
