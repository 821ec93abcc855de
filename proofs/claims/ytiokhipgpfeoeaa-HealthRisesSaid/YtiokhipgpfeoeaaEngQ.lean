/- Lemmas about the evaluator of the code. -/
import Derived.Test.YtiokhipgpfeoeaaEngP
import Derived.KernelRfl
set_option linter.all false
set_option linter.deprecated false
set_option autoImplicit false
namespace Go.Eng
open Go Go.RowKit

noncomputable abbrev mem0 : Mem := ⟨0, 0, fun _ => .dead⟩
noncomputable def putCol (col : Col) (M : Mem) : AV × Mem :=
  match col with
  | .ci k l => (.i k (l.getD 0 0), M)
  | .cs l => (.s (l.getD 0 ByteArray.empty), M)
  | .cb l => (.b (l.getD 0 false), M)
  | .cf k l => (.v (.float k (l.getD 0 0)), M)
  | .cl h sub => (.sl M.next 0 (h.getD 0 hd0).2.1 (some (h.getD 0 hd0).2.2), M.new (.ro (h.getD 0 hd0).1 (h.getD 0 hd0).2.1 (sub 0)))
theorem putCol_eq (col : Col) (M : Mem) : colGet M 0 col = .ret (putCol col M) := by cases col <;> rfl
noncomputable def putCols : List Col → Mem → List AV × Mem
  | [], M => ([], M)
  | c :: cs, M => ((putCol c M).1 :: (putCols cs (putCol c M).2).1, (putCols cs (putCol c M).2).2)
theorem putCols_ok {N : Nat} {w : World} (cols : List Col) : ∀ {cs : List Value} {φ : Phi} {M : Mem}, Rep N φ M w → cols.length = cs.length → (∀ (i : Nat) (col : Col) (v : Value), cols[i]? = some col → cs[i]? = some v → ColRel N w col 0 v) →
    ∃ φ', PhiLe φ φ' ∧ Rep N φ' (putCols cols M).2 w ∧ AVsRel φ' (putCols cols M).1 cs := by
  induction cols with
  | nil =>
    intro cs φ M hr hl h
    cases cs with
    | nil => exact ⟨φ, .refl _, hr, .nil⟩
    | cons => simp at hl
  | cons c cols ih =>
    intro cs φ M hr hl h
    cases cs with
    | nil => simp at hl
    | cons v cs =>
      obtain ⟨φ1, x, M1, hq, hx, hr1, he1⟩ := colGet_ok (Q := fun y => y = putCol c M) (Qp := fun _ _ => False) hr (h 0 c v rfl rfl) (by rw [putCol_eq]; rfl)
      obtain ⟨φ2, hle, hr2, hxs⟩ := ih (M := (putCol c M).2) (by rw [← hq]; exact hr1) (by simpa using hl) (fun i col v hc hv => h (i + 1) col v (by simpa using hc) (by simpa using hv))
      refine ⟨φ2, he1.phi.trans hle, hr2, .cons ?_ hxs⟩
      have hx1 : x = (putCol c M).1 := congrArg Prod.fst hq
      rw [← hx1]
      exact hx.mono hle
/-- The memory in which a law starts. -/
noncomputable def argMem (cols : List Col) : Mem := ⟨(putCols cols mem0).2.next, (putCols cols mem0).2.next, (putCols cols mem0).2.get⟩
noncomputable def argVals (cols : List Col) : List AV := (putCols cols mem0).1
theorem rep0 (w : World) : Rep w.heap.size (fun _ => none) mem0 w :=
  ⟨fun id => trivial, fun id id' p p' h => h.elim, fun id p h => h.elim, fun id _ => ⟨rfl, rfl⟩, Nat.le_refl _⟩
theorem Rep.lock {N : Nat} {φ : Phi} {M : Mem} {w : World} (h : Rep N φ M w) (l : Nat) : Rep N φ ⟨M.next, l, M.get⟩ w := ⟨h.objs, h.sep, h.high, h.fresh, h.size⟩

/-- Columns that fit kinds, one row each. -/
def FitCols (ks : List SK) (cols : List Col) : Prop := cols.length = ks.length ∧ ∀ (c : Nat) (k : SK) (col : Col), ks[c]? = some k → cols[c]? = some col → ColFact k col ∧ col.len = 1
theorem fit_ex {w : World} (ks : List SK) : ∀ (cs : List Value), CellsOk w ks cs → ∃ cols, FitCols ks cols ∧ ∀ (i : Nat) (col : Col) (v : Value), cols[i]? = some col → cs[i]? = some v → ColRel w.heap.size w col 0 v := by
  induction ks with
  | nil =>
    intro cs h
    exact ⟨[], ⟨rfl, fun c k col hk => by simp at hk⟩, fun i col v hc => by simp at hc⟩
  | cons k ks ih =>
    intro cs h
    obtain ⟨h1, h2⟩ := h
    cases cs with
    | nil => simp at h1
    | cons v cs =>
      obtain ⟨cols, ⟨hl, hf⟩, hr⟩ := ih cs ⟨by simpa using h1, fun c k' v' hk hv => h2 (c + 1) k' v' (by simpa using hk) (by simpa using hv)⟩
      obtain ⟨col, hcf, hcl, hcr⟩ := col_ex (w := w) k 1 (fun _ => v) (fun j hj => h2 0 k v rfl rfl)
      refine ⟨col :: cols, ⟨by simp [hl], fun c k' col' hk hc => ?_⟩, fun i col' v' hc hv => ?_⟩
      · cases c with
        | zero => simp at hk hc; subst hk; subst hc; exact ⟨hcf, hcl⟩
        | succ c => exact hf c k' col' (by simpa using hk) (by simpa using hc)
      · cases i with
        | zero => simp at hc hv; subst hc; subst hv; exact hcr 0 (by omega)
        | succ i => exact hr i col' v' (by simpa using hc) (by simpa using hv)

theorem law_calls {Hh : Type} {enc : TypeId × Value → Hh} {P : Program} {tt : TT} (tok : TTok P tt) {S : Nat → Option (List AV → Mem → T (AV × Mem))} {F : Nat → Option FI} (hF : FOk P F) (hmix : P.follows .mixedOrders = true) {L d : Nat} {f : FuncId} {t : TypeId}
    {ks : List SK} {g : Nat} (hsh : shapeL P g t = some ks) {W : World} (hS : SOk P W.heap.size S) {sp : Nat → Bool} {held : Bool} {v : Value} {dd : DataW Hh} {p : List MemPlace} (ht : DataW.Trod enc P W 0 sp held t v dd p)
    {arg : List AV → AV} (harg : ∀ φ l, AVsRel φ l v.cells.toList → AVRel φ (arg l) v)
    (law : ∀ cols, FitCols ks cols → H (evFun P tt S F L d f [arg (argVals cols)] (argMem cols)) (fun x => x.1 = .b true) (fun _ _ => False)) (hSf : S f = none := by kernel_rfl) :
    Calls P f #[v] W fun e W' => e = .returned (.bool true) ∧ Below W.heap.size W W' := by
  obtain ⟨fuel, htr⟩ := ht
  have hcells := trod_cells fuel htr hsh
  obtain ⟨cols, hfit, hrel⟩ := fit_ex ks v.cells.toList hcells
  obtain ⟨φ, _, hr, hx⟩ := putCols_ok cols (rep0 W) (by rw [hfit.1, hcells.1]) hrel
  obtain ⟨_, hc⟩ := evFun_okA tok hS hF hmix d hSf [arg (argVals cols)] (argMem cols) _ _ (law cols hfit).out
  have := hc φ W [v] (hr.lock _) (.cons (harg φ _ hx) .nil)
  refine this.mono fun e W' h => ?_
  rcases h with ⟨u, rfl, φ', x, M', hq, hxv, hr', he⟩ | ⟨u, rfl, φ', x, M', hq, _⟩
  · have hq : x = .b true := hq
    subst hq
    cases hxv
    exact ⟨rfl, he.below (hr.lock _)⟩
  · exact hq.elim
end Go.Eng
