/- An evaluator of the code of the model, and lemmas of its proof of soundness: what it tells of a call, the call does; no condition but those that each lemma names. -/
import Derived.Test.YtiokhipgpfeoeaaEng5
set_option linter.all false
set_option linter.deprecated false
set_option autoImplicit false
namespace Go.Eng
open Go Go.RowKit

/-! ## Aggregates and rows -/
theorem setAt_length (ps : List AV) : ∀ (l : List AV) (off : Nat), (setAt ps l off).length = l.length := by
  induction ps with
  | nil => intro l off; rfl
  | cons x ps ih => intro l off; show (setAt ps (l.set off x) (off + 1)).length = _; rw [ih]; simp
theorem AVsRel.set {φ : Phi} {l : List AV} {m : List Value} (h : AVsRel φ l m) (i : Nat) {x : AV} {y : Value} (hx : AVRel φ x y) : AVsRel φ (l.set i x) (m.set i y) := by
  induction l generalizing m i with
  | nil => cases h; simpa using AVsRel.nil
  | cons a l ih => cases h with
    | cons h t =>
      cases i with
      | zero => simpa using AVsRel.cons hx t
      | succ i => simpa using AVsRel.cons h (ih t i)
theorem setAt_rel {φ : Phi} (ps : List AV) : ∀ {zs : List Value} (_ : AVsRel φ ps zs) {l : List AV} {cs : Array Value} (_ : AVsRel φ l cs.toList) (off k : Nat),
    AVsRel φ (setAt ps l (off + k)) (((zs.zipIdx k).foldl (fun cs (x : Value × Nat) => cs.setIfInBounds (off + x.2) x.1) cs).toList) := by
  induction ps with
  | nil => intro zs hz l cs h off k; cases hz; exact h
  | cons x ps ih =>
    intro zs hz l cs h off k
    cases hz with
    | cons hx ht =>
      rename_i y zs
      have := ih ht (l := l.set (off + k) x) (cs := cs.setIfInBounds (off + k) y) (by simpa using h.set (off + k) hx) off (k + 1)
      exact this

theorem allLeaf_rel {φ : Phi} {x : AV} {z : Value} (hl : allLeaf x.cells = true) (h : AVRel φ x z) : AVsRel φ x.cells z.cells.toList :=
  h.cells (by intro e; rw [e] at hl; cases hl) (by
    intro y e; rw [e] at hl
    exact allLeaf_ok hl (.v y) (by simp [AV.cells]))

theorem layAll_ok {φ : Phi} {st : Tmps} {a : Act} (hst : TmpsRel φ st a.tmps) {place : Nat → Option (Nat × Nat)} {k : List AV → T (AV × Mem)} {Q : AV × Mem → Prop} {Qp : AV → Mem → Prop} (ps : List (Nat × Operand)) :
    ∀ {l : List AV} {cs : Array Value} (_ : AVsRel φ l cs.toList) (_ : (layAll place st ps l k).holds Q Qp),
      ∃ cs' l', Instr.fill place cs (ps.map fun p => (p.1, a.eval p.2)) = some cs' ∧ AVsRel φ l' cs'.toList ∧ l'.length = l.length ∧ (k l').holds Q Qp := by
  induction ps with
  | nil => intro l cs hl h; exact ⟨cs, l, rfl, hl, rfl, h⟩
  | cons p ps ih =>
    intro l cs hl h
    obtain ⟨q, hq, h⟩ := onO_ok (show (onO (place p.1) fun q => layPart q.1 q.2 (evA st p.2) l fun l => layAll place st ps l k).holds Q Qp from h)
    obtain ⟨hb, h⟩ := br_ok (show (T.br (allLeaf (evA st p.2).cells && (Nat.beq (evA st p.2).cells.length q.2 && Nat.ble (q.1 + q.2) l.length)) (layAll place st ps (setAt (evA st p.2).cells l q.1) k) .fail).holds Q Qp from h)
    obtain ⟨hlf, hb⟩ := Bool.and_eq_true_iff.1 hb
    obtain ⟨hn, hle⟩ := Bool.and_eq_true_iff.1 hb
    have hn : (evA st p.2).cells.length = q.2 := Nat.eq_of_beq_eq_true hn
    have hle : q.1 + q.2 ≤ l.length := Nat.le_of_ble_eq_true hle
    have hrel := allLeaf_rel hlf (evA_rel hst p.2)
    have hsz : (a.eval p.2).cells.size = q.2 := by rw [← hn, hrel.length, Array.length_toList]
    have hcs : l.length = cs.size := by rw [hl.length, Array.length_toList]
    have h2 := setAt_rel _ hrel hl q.1 0
    obtain ⟨cs', l', h3, h4, h5, h6⟩ := ih h2 h
    refine ⟨cs', l', ?_, h4, by rw [h5]; exact setAt_length .., h6⟩
    simp only [List.map_cons, Instr.fill, hq]
    rw [if_neg (by simp [hsz]; omega)]
    rw [← h3]
    congr 1
    rw [← Array.foldl_toList, Array.toList_zipIdx]

theorem evBuild_ok {P : Program} {tt : TT} (tok : TTok P tt) {N : Nat} {φ : Phi} {M : Mem} {w : World} (hr : Rep N φ M w) {st : Tmps} {a : Act} (hst : TmpsRel φ st a.tmps) {t : TypeId} {ps : Array (Nat × Operand)}
    {Q : AV × Mem → Prop} {Qp : AV → Mem → Prop} (h : (evBuild tt (tt t) M st ps.toList).holds Q Qp) : ∃ z, (Instr.build t (ps.map fun (i, x) => (i, a.eval x))).run P w = .ok z w ∧ Good N φ M w Q z w := by
  have hmap : (ps.map fun (i, x) => (i, a.eval x)).toList = ps.toList.map fun p => (p.1, a.eval p.2) := by simp
  unfold evBuild at h
  cases hu : (tt t).u with
  | arr n el =>
    rw [hu] at h
    have ti := tok t (by rw [hu]; simp)
    obtain ⟨i, z, hi, _, _, hz, hzz, _⟩ := ti.info
    have hun := ti.und
    rw [hu] at hun
    have hun : P.underlying t = some (.array n el) := hun
    rcases onK_ok (show (onK (tt el).u .fail (layAll (fun i => some (i * (tt el).size, (tt el).size)) st ps.toList (tt t).zero fun l => .ret (.agg l, M))).holds Q Qp from h) with ⟨_, _, h⟩ | ⟨hb, _, h⟩
    · exact h.elim
    · obtain ⟨cs', l', h1, h2, h3, h4⟩ := layAll_ok hst ps.toList (cs := z.cells) (by rw [← hzz]; exact (by
        have := AVsRel.map (φ := φ) z.cells.toList lift1 id fun x _ => lift1_rel φ x
        simpa using this)) h
      refine ⟨.agg cs', ?_, .here hr h4 (.agg _ _ h2)⟩
      simp [Instr.build, zeroValue, typeInfo, hi, hz, run_underlying hun, run_sizeOf' (tok el hb)]
      rw [h1]; simp
  | st fs =>
    rw [hu] at h
    have ti := tok t (by rw [hu]; simp)
    obtain ⟨i, z, hi, _, _, hz, hzz, _⟩ := ti.info
    have hun := ti.und
    rw [hu] at hun
    obtain ⟨fds, hf, hfs, hfi⟩ := hun
    obtain ⟨cs', l', h1, h2, h3, h4⟩ := layAll_ok hst ps.toList (cs := z.cells) (by rw [← hzz]; exact (by
        have := AVsRel.map (φ := φ) z.cells.toList lift1 id fun x _ => lift1_rel φ x
        simpa using this)) (place := fun i => @Option.rec (Nat × TypeId × Nat) (fun _ => Option (Nat × Nat)) none (fun f => some (f.1, f.2.2)) (nth? fs i)) (show (layAll (fun i => @Option.rec (Nat × TypeId × Nat) (fun _ => Option (Nat × Nat)) none (fun f => some (f.1, f.2.2)) (nth? fs i)) st ps.toList (tt t).zero fun l => .ret (.agg l, M)).holds Q Qp from h)
    refine ⟨.agg cs', ?_, .here hr h4 (.agg _ _ h2)⟩
    have hlist : ∀ l : List Field, (∀ f ∈ l, (P.info? f.type).isSome = true) → (l.mapM (m := Sem) fun f => do pure (f.offset, ← sizeOf f.type)).run P w = .ok (l.map fun f => (f.offset, P.cellsOf f.type)) w := by
      intro l
      induction l with
      | nil => intro _; simp
      | cons f l ih =>
        intro hl
        obtain ⟨fi, hfi'⟩ := Option.isSome_iff_exists.1 (hl f (by simp))
        have hs : (sizeOf f.type).run P w = .ok (P.cellsOf f.type) w := by simp [sizeOf, typeInfo, hfi', Program.cellsOf]
        rw [List.mapM_cons]
        simp only [Sem.run_bind, hs, Result.andThen_ok, Sem.run_pure, ih (fun f hf => hl f (by simp [hf])), List.map_cons]
    have h5 := hlist fds.toList hfi
    have hplace : (fun i => @Option.rec (Nat × TypeId × Nat) (fun _ => Option (Nat × Nat)) none (fun f => some (f.1, f.2.2)) (nth? fs i)) = fun i => (fds.toList.map fun f => (f.offset, P.cellsOf f.type)).toArray[i]? := by
      funext i
      rw [nth?_eq, hfs, List.getElem?_map]
      simp only [List.getElem?_toArray, List.getElem?_map]
      cases fds.toList[i]? <;> rfl
    rw [hplace] at h1
    unfold Instr.build
    simp only [zeroValue, typeInfo, Sem.run_bind, run_underlying hf, hi, hz, Sem.run_pure, Result.andThen_ok, Array.mapM_eq_mapM_toList, bind_map_left, h5, program, Sem.run, hmap]
    simp only [h1, Sem.run_pure]
  | _ => rw [hu] at h; exact h.elim

theorem AVsRel.of_get {φ : Phi} {l : List AV} {m : List Value} (hl : l.length = m.length) (h : ∀ (i : Nat) x y, l[i]? = some x → m[i]? = some y → AVRel φ x y) : AVsRel φ l m := by
  induction l generalizing m with
  | nil => cases m with
    | nil => exact .nil
    | cons => simp at hl
  | cons a l ih => cases m with
    | nil => simp at hl
    | cons b m => exact .cons (h 0 a b rfl rfl) (ih (by simpa using hl) fun i x y hx hy => h (i + 1) x y (by simpa using hx) (by simpa using hy))
theorem rng0 : Array.range 0 = #[] := rfl
theorem tile_length (z : List AV) (n : Nat) : (tile z n).length = n * z.length := by
  induction n with
  | zero => rw [Nat.zero_mul]; rfl
  | succ n ih => show (z ++ tile z n).length = _; rw [List.length_append, ih, Nat.succ_mul]; omega
theorem tile_get (z : List AV) (n : Nat) : ∀ i, i < n * z.length → (tile z n)[i]? = z[i % z.length]? := by
  induction n with
  | zero => intro i h; simp at h
  | succ n ih =>
    intro i h
    show (z ++ tile z n)[i]? = _
    by_cases hi : i < z.length
    · rw [List.getElem?_append_left hi, Nat.mod_eq_of_lt hi]
    · rw [List.getElem?_append_right (by omega), ih _ (by rw [Nat.succ_mul] at h; omega)]
      congr 1
      rw [Nat.mod_eq_sub_mod (by omega : z.length ≤ i)]
theorem zero_tile {φ : Phi} {z : Value} {size n : Nat} (hs : z.cells.size = size) (h0 : 0 < size) : AVsRel φ (tile (z.cells.toList.map lift1) n) ((Array.range (n * size)).map (z.cells[· % z.cells.size]!)).toList := by
  have hl : (z.cells.toList.map lift1).length = size := by simp [hs]
  refine AVsRel.of_get (by rw [tile_length, hl]; simp) fun i x y hx hy => ?_
  have hi : i < n * size := by
    have := (List.getElem?_eq_some_iff.1 hx).1
    rwa [tile_length, hl] at this
  rw [tile_get _ _ _ (by rw [hl]; exact hi), hl] at hx
  have hlt : i % size < size := Nat.mod_lt _ h0
  simp only [List.getElem?_map] at hx
  simp only [Array.toList_map, List.getElem?_map, Array.toList_range, List.getElem?_range hi, Option.map_some, Option.some.injEq] at hy
  subst hy
  rw [hs]
  have : z.cells.toList[i % size]? = some (z.cells[i % size]!) := by
    rw [Array.getElem?_toList, Array.getElem?_eq_getElem (by rw [hs]; exact hlt)]
    simp [hs, hlt]
  rw [this] at hx
  obtain rfl := Option.some.inj hx
  exact lift1_rel _ _

/-- A new row of the call's own. -/
theorem newRowA_ok {P : Program} {N : Nat} {φ : Phi} {M : Mem} {w : World} (hr : Rep N φ M w) {e : TypeId} {rs n : Nat} {l : List AV} {zs : Array Value} (hz : AVsRel φ l zs.toList)
    {Q : AV × Mem → Prop} {Qp : AV → Mem → Prop} (h : (newRowA M e rs n l).holds Q Qp) :
    (newRow e zs).run P w = .ok ⟨w.heap.size, 0, none⟩ (w.alloc (.cells zs e)) ∧ Good N φ M w Q (.slice (some ⟨w.heap.size, 0, none⟩) n n) (w.alloc (.cells zs e)) := by
  obtain ⟨hc, hq⟩ := br_ok h
  obtain ⟨_, hl⟩ := Bool.and_eq_true_iff.1 hc
  have hl : l.length = n * rs := Nat.eq_of_beq_eq_true hl
  have hsz : zs.size = n * rs := by rw [← hl, hz.length, Array.length_toList]
  have key := hr.newOwn (.own e rs l) (.cells zs e) ⟨w.heap.size, 0, rs, n, none⟩ rfl (by
    refine ⟨_, updP_self .., ⟨rfl, rfl⟩, rfl, ⟨zs, _, alloc_new _ _, hsz, .inl rfl⟩, Nat.le_of_eq hl, fun j a ha => ?_⟩
    obtain ⟨y, hy, hrel⟩ := hz.get j a ha
    refine ⟨y, ?_, hrel.mono (updP_le _ (hr.fresh _ (Nat.le_refl _)).2)⟩
    show (w.alloc (.cells zs e)).cell? ⟨w.heap.size, j, none⟩ = some y
    simp only [World.cell?, alloc_new]
    simpa using hy)
  refine ⟨by simp [newRow, newObj, Sem.run], _, _, _, hq, ?_, key.1, key.2⟩
  have := AVRel.sl (φ := updP φ M.next (some ⟨w.heap.size, 0, rs, n, none⟩)) M.next 0 n (some n) _ n (updP_self ..) (fun h => by cases h) (fun c h => by cases h; rfl) (Nat.le_refl _) (fun p h => by cases h; simp) (fun p h _ => by cases h; rfl)
  simpa [Pl.at] using this

theorem evBuildSlice_ok {P : Program} {tt : TT} (tok : TTok P tt) {N : Nat} {φ : Phi} {M : Mem} {w : World} (hr : Rep N φ M w) {st : Tmps} {a : Act} (hst : TmpsRel φ st a.tmps) {t : TypeId} {n : Nat} {ps : Array (Nat × Operand)}
    {Q : AV × Mem → Prop} {Qp : AV → Mem → Prop} (h : (evBuildSlice tt (tt t).u M st n ps.toList).holds Q Qp) : ∃ z w', (Instr.buildSlice t n (ps.map fun (i, x) => (i, a.eval x))).run P w = .ok z w' ∧ Good N φ M w Q z w' := by
  have hmap : (ps.map fun (i, x) => (i, a.eval x)).toList = ps.toList.map fun p => (p.1, a.eval p.2) := by simp
  unfold evBuildSlice at h
  cases hu : (tt t).u with
  | sl el =>
    rw [hu] at h
    have ti := (tok t (by rw [hu]; simp)).und
    rw [hu] at ti
    have ti : P.underlying t = some (.slice el) := ti
    obtain ⟨hb, h⟩ := onK_both (show (onK (tt el).u (buildSl (tt el) M st el n ps.toList) (buildSl (tt el) M st el n ps.toList)).holds Q Qp from h)
    have te := tok el hb
    obtain ⟨i, z, hi, hs, _, hz, hzz, hzs⟩ := te.info
    obtain ⟨hc, h⟩ := br_ok h
    obtain ⟨h0, hle⟩ := Bool.and_eq_true_iff.1 hc
    have h0 : 0 < (tt el).size := Nat.le_of_ble_eq_true h0
    have hle : n * (tt el).size ≤ 16777216 := Nat.le_of_ble_eq_true hle
    obtain ⟨cs', l', h1, h2, h3, h4⟩ := layAll_ok hst ps.toList (l := tile (tt el).zero n) (by rw [← hzz]; exact zero_tile (n := n) hzs h0) h
    obtain ⟨h5, h6⟩ := newRowA_ok (P := P) hr h2 h4
    refine ⟨_, _, ?_, h6⟩
    unfold Instr.buildSlice
    have hgt : ¬ (n * (tt el).size > 2 ^ 24) := by
      have : (2 : Nat) ^ 24 = 16777216 := rfl
      omega
    by_cases hn : n * (tt el).size = 0
    · have hn0 : n = 0 := by
        rcases Nat.mul_eq_zero.1 hn with h | h
        · exact h
        · omega
      subst hn0
      simp only [Nat.zero_mul, rng0, Array.map_empty] at h1
      simp only [Sem.run_bind, run_underlying ti, Result.andThen_ok, run_sizeOf' te, Nat.zero_mul, gt_iff_lt, Nat.not_lt_zero, if_false, if_true, Sem.run_pure, rng0, Array.map_empty, hmap, h1, h5]
    · simp only [Sem.run_bind, run_underlying ti, Result.andThen_ok, run_sizeOf' te, hgt, if_false, hn, Sem.run_pure, zeroValue, typeInfo, program, Sem.run, hi, hz, hmap, h1, h5]
  | _ => rw [hu] at h; exact h.elim
end Go.Eng
