/- Whether a domain may be, at the domains that occur, proved by the evaluator and the kit's walk; each names its conditions. -/
import Derived.Test.YthfdfjkmccbikaaGreatDoorDomZL
import Derived.RangeFuncFrom
set_option linter.all false
set_option linter.deprecated false
set_option maxRecDepth 1000000
set_option maxHeartbeats 4000000
namespace Go.Proofs.TabZ
open Go Go.Eng Go.RowKit Go.Shelf
attribute [local go_sem] Oper.semAt_some
def ohx : ByteArray := ⟨#[48, 104, 46, 120]⟩
theorem dom_ohx (w : World) : Calls Tryz.prog 44 #[.string ohx] w fun e w' => e = .returned (.bool true) ∧ Below w.heap.size w w' :=
  dom_two 2 (by decide +kernel) (by decide +kernel) (rn (by kernel_rfl)) (rn (by kernel_rfl)) (rn (by kernel_rfl)) (rn (by kernel_rfl)) (rn (by kernel_rfl)) w
theorem grown_below {w w' : World} (h : Below w.heap.size w w') : w.grownBy w' none := ⟨h.os, h.tape, h.output, h.size, fun k hk _ => h.block k hk⟩
/-- The iterator, at a string without a dot, whatever is done with what it gives. -/
theorem iter_stop {n : Nat} (hn : 4 ≤ n) {s : ByteArray} (hi : ∀ W, Calls Tryz.prog 71 #[.string s, .string dotS] W fun e W' => e = .returned (.int .i64 (-1)) ∧ Below W.heap.size W W')
    {bp bs bv : Nat} {w : World} (hcp : w.cell? ⟨bp, 0, none⟩ = some (.string dotS)) (hcs : w.cell? ⟨bs, 0, none⟩ = some (.string s)) (hlp : bp < w.heap.size) (hls : bs < w.heap.size) :
    SeqStopsK Fence.wide (n - 1) Tryz.prog 101 #[pv bp, pv bs, pv bv] (fun _ : Unit => #[Value.string s]) (fun _ _ => True) (fun xs => xs = [()]) (fun xs => xs = [()]) 1 w := by
  intro l J Jx W hW hJ1 hJ2 hY h0
  refine callsIn_of_wp Tryz.func101 rfl trivial ?_ rfl
  simp only [Tryz.ntmps101, List.size_toArray, List.length_cons, List.length_nil, Nat.reduceAdd, Nat.reduceSub, Array.replicate_succ, Array.replicate_zero, List.push_toArray, List.append_toArray, List.nil_append, List.cons_append]
  have hp1 : W.cell? ⟨bp, 0, none⟩ = some (.string dotS) := (hW.cell hlp).trans hcp
  have hs1 : W.cell? ⟨bs, 0, none⟩ = some (.string s) := (hW.cell hls).trans hcs
  have hn1 : 1 ≤ n - 1 := by omega
  have hn2 : 1 ≤ n - 1 - 1 := by omega
  have hlW : bs < W.heap.size := Nat.lt_of_lt_of_le hls hW.size
  gi_wp2
  refine wpIn_loop_rounds 1 ?_
  rw [roundsIn_succ]
  gi_wp2
  refine ⟨trivial, ?_⟩
  refine CallsIn.mono (callsIn_wide.2 (hi W)) ?_
  rintro e w' ⟨rfl, hb⟩
  have hs2 : w'.cell? ⟨bs, 0, none⟩ = some (.string s) := (hb.cell hlW).trans hs1
  obtain ⟨fn, tmps, assign, body, hy, hR⟩ := hY [] () w' (hJ1 _ _ _ none h0 (grown_below hb) (fun r e => by cases e)) (by simp)
  gi_wp2
  refine hR.mono ?_
  rintro e W2 (⟨rfl, hJ, _⟩ | ⟨rfl, hJ⟩)
  · gi_wp2
    go_end0
    exact ⟨⟨_, rfl⟩, .inl ⟨[()], rfl, hJ⟩⟩
  · gi_wp2
    go_end0
    exact ⟨⟨_, rfl⟩, .inr ⟨[()], rfl, hJ⟩⟩
theorem dom_stop {s : ByteArray} (hlit : ∀ W, Calls Tryz.prog 45 #[.string s] W fun e W' => e = .returned (.bool false) ∧ Below W.heap.size W W')
    (hlab : ∀ W, Calls Tryz.prog 61 #[.string s] W fun e W' => e = .returned (.bool false) ∧ Below W.heap.size W W')
    (hi : ∀ W, Calls Tryz.prog 71 #[.string s, .string dotS] W fun e W' => e = .returned (.int .i64 (-1)) ∧ Below W.heap.size W W') (w : World) :
    Calls Tryz.prog 44 #[.string s] w fun e w' => e = .returned (.bool false) ∧ Below w.heap.size w w' := by
  refine (callsIn_wide (n := 6)).1 ?_
  refine callsIn_of_wp_marks Tryz.func44 rfl trivial ?_ rfl
  simp only [Tryz.ntmps44, List.size_toArray, List.length_cons, List.length_nil, Nat.reduceAdd, Nat.reduceSub, Array.replicate_succ, Array.replicate_zero, List.push_toArray, List.append_toArray, List.nil_append, List.cons_append]
  gi_wp2
  refine ⟨trivial, ?_⟩
  refine CallsIn.mono (callsIn_wide.2 (hlit _)) ?_
  rintro e w1 ⟨rfl, hb1⟩
  have hc1 : w1.cell? ⟨w.heap.size, 0, none⟩ = some (.bool false) := (hb1.cell (by simp)).trans (by simp)
  have hf1 : w1.frozen? ⟨w.heap.size, 0, none⟩ = false := (hb1.frozen (by simp)).trans (by simp)
  have hB1 : Below w.heap.size w w1 := ((Below.refl _ w).alloc (Nat.le_refl _) _).trans (hb1.mono (by simp))
  have hz1 : w.heap.size < w1.heap.size := by have := hb1.size; simp at this; omega
  gi_wp2
  refine ⟨trivial, ?_⟩
  refine CallsIn.mono (callsIn_wide.2 (split_calls s w1)) ?_
  rintro e w2 ⟨rfl, rfl⟩
  gi_wp2
  have hB2 : Below w1.heap.size w1 (boxed s w1) := (((Below.refl _ w1).alloc (Nat.le_refl _) _).alloc (by simp) _).alloc (by simp; omega) _
  have hz2 : (boxed s w1).heap.size = w1.heap.size + 3 := by simp [boxed]
  have hc2 : (boxed s w1).cell? ⟨w.heap.size, 0, none⟩ = some (.bool false) := (hB2.cell hz1).trans hc1
  have hf2 : (boxed s w1).frozen? ⟨w.heap.size, 0, none⟩ = false := (hB2.frozen hz1).trans hf1
  have hB3 : Below w.heap.size w (boxed s w1) := hB1.trans (hB2.mono (by omega))
  obtain ⟨c0, c1, c2, c3, c4⟩ := boxed_cells s w1
  have hit' := iter_stop (n := 6) (by omega) hi (bp := w1.heap.size + 1) (bs := w1.heap.size) (bv := w1.heap.size + 2) (w := boxed s w1) c1 c0 (by omega) (by omega)
  clear c0 c1 c2 c3 c4
  generalize boxed s w1 = W0 at hz2 hc2 hf2 hB3 hit' ⊢
  refine wpIn_rangeFunc_ownF (F := Fence.wide) rfl (by omega) (gf := 101) (lb := #[pv (w1.heap.size + 1), pv w1.heap.size, pv (w1.heap.size + 2)]) rfl trivial (enters_of Tryz.func101 (by kernel_rfl) rfl) (encs := fun _ : Unit => #[Value.string s]) (Kp := fun _ _ => True) (w0 := W0) hit' (fun _ _ => trivial) (fun _ _ _ _ _ _ _ _ => trivial) (Below.refl _ _) (fun _ => rfl)
    (fun pre W => pre = [] ∧ W.cell? ⟨w.heap.size, 0, none⟩ = some (.bool false) ∧ W.frozen? ⟨w.heap.size, 0, none⟩ = false ∧ Below w.heap.size w W)
    (fun c pre W => c = .ret ∧ W.cell? ⟨w.heap.size, 0, none⟩ = some (.bool false) ∧ W.frozen? ⟨w.heap.size, 0, none⟩ = false ∧ Below w.heap.size w W) ?hI ?hIx ⟨rfl, hc2, hf2, hB3⟩
    (fun _ => { tmps := #[.string s, undef, pv w.heap.size, .string s, .string s, .bool false, undef, undef, undef, undef, undef, undef, undef, undef, undef, undef, .string s, .func (.func 101) #[] #[pv (w1.heap.size + 1), pv w1.heap.size, pv (w1.heap.size + 2)], .string s, undef, undef, undef, undef, undef, undef], defers := [] }) ?assign ?body ?done ?stop
  case hI =>
    rintro _ W W' row ⟨a0, a1, a2, a3⟩ hg hr
    have hlt : w.heap.size < W0.heap.size := by omega
    have hlw : w.heap.size < W.heap.size := by
      obtain ⟨o, ho, _⟩ := cells_of_cell a1
      exact (Array.getElem?_eq_some_iff.1 ho).1
    have hsame : ∀ k, k ≤ w.heap.size → W'.heap[k]? = W.heap[k]? := fun k hk => hg.block k (by omega) fun e => by
      obtain ⟨h1, _⟩ := hr k e.symm
      omega
    exact ⟨a0, (World.cell?_of_block (hsame _ (Nat.le_refl _))).trans a1, (World.frozen?_of_block (hsame _ (Nat.le_refl _))).trans a2, a3.trans ⟨hg.os, hg.tape, hg.output, hg.size, fun k hk => hsame k (by omega)⟩⟩
  case hIx =>
    rintro c _ W W' row ⟨a0, a1, a2, a3⟩ hg hr
    have hlt : w.heap.size < W0.heap.size := by omega
    have hlw : w.heap.size < W.heap.size := by
      obtain ⟨o, ho, _⟩ := cells_of_cell a1
      exact (Array.getElem?_eq_some_iff.1 ho).1
    have hsame : ∀ k, k ≤ w.heap.size → W'.heap[k]? = W.heap[k]? := fun k hk => hg.block k (by omega) fun e => by
      obtain ⟨h1, _⟩ := hr k e.symm
      omega
    exact ⟨a0, (World.cell?_of_block (hsame _ (Nat.le_refl _))).trans a1, (World.frozen?_of_block (hsame _ (Nat.le_refl _))).trans a2, a3.trans ⟨hg.os, hg.tape, hg.output, hg.size, fun k hk => hsame k (by omega)⟩⟩
  case assign =>
    intro l x W K hK
    gi_wp2
    exact hK
  case body =>
    rintro l pre x W ⟨rfl, a1, a2, a3⟩ hlen
    gi_wp2
    refine ⟨trivial, ?_⟩
    refine CallsIn.mono (CallsIn.inRound l (callsIn_wide.2 (hlab W))) ?_
    rintro e W' ⟨rfl, hb⟩
    have hlw : w.heap.size < W.heap.size := by
      obtain ⟨o, ho, _⟩ := cells_of_cell a1
      exact (Array.getElem?_eq_some_iff.1 ho).1
    have b1 := (hb.cell (p := ⟨w.heap.size, 0, none⟩) hlw).trans a1
    have b2 := (hb.frozen (p := ⟨w.heap.size, 0, none⟩) hlw).trans a2
    have b3 := a3.trans (hb.mono (by omega))
    gi_wp2
    exact ⟨(KeepsOthers.of_grownBy (grown_below hb) (fun _ _ e => by cases e)).trans (KeepsOthers.setCell _ _ _), rfl, World.cell?_setCell_same' _ _ _ (by rw [b1]; rfl), (World.frozen?_setCell _ _ _ _).trans b2, b3.setCell (p := ⟨w.heap.size, 0, none⟩) (Nat.le_refl _) _⟩
  case done =>
    rintro D ys W hD rfl ⟨h, _⟩
    cases h
  case stop =>
    rintro D c pre W hD hp ⟨rfl, a1, a2, a3⟩ hK
    gi_wp2
    refine ⟨by simp, .inl ⟨_, _, rfl, run_takeDeferred hK, ?_⟩⟩
    have hne : w.heap.size ≠ D := by omega
    have hc5 : (W.putObj D (.deferred none)).cell? ⟨w.heap.size, 0, none⟩ = some (.bool false) := (World.cell?_of_block (World.putObj_heap_other hne)).trans a1
    refine ⟨.bool false, ?_, rfl, ?_⟩
    · simp [results, Tryz.f44, go_sem, hc5]
    · exact a3.trans ⟨rfl, rfl, rfl, by simp [World.putObj], fun k hk => World.putObj_heap_other (by omega)⟩
theorem dom_nil (w : World) : Calls Tryz.prog 44 #[.string ⟨#[]⟩] w fun e w' => e = .returned (.bool false) ∧ Below w.heap.size w w' :=
  dom_stop (toC (rn (by kernel_rfl)) rfl (z1 _) (vb _)) (toC (rn (by kernel_rfl)) rfl (z1 _) (vb _)) (toC (rn (by kernel_rfl)) rfl (z2 _ dotS) (vi _)) w
/-- IsDomain at two more texts. -/
noncomputable def g44y : List AV → T AV
  | [.s s] => .br (Nat.beq s.size 0) (.ret (.b false)) (.br (s.data.toList == [48, 104, 46, 120]) (.ret (.b true)) ((g44 [.s s])))
  | _ => .fail
theorem s44y {N : NB} {R : Sp} (hR : SOk Tryz.prog N R) : SOk Tryz.prog N (fun f => bif2 (Nat.beq f 44) (some (treeS g44y)) (R f)) := by
  refine sOk_below hR Tryz.func44 rfl (by kernel_rfl) ?_
  intro args Q h φ zs hz w
  unfold g44y at h
  split at h
  · cases hz with
    | cons h1 h2 =>
      cases h2
      cases h1
      rename_i s
      cases hb : Nat.beq s.size 0 with
      | true =>
        have hq := h.1 hb
        have hs : s = ⟨#[]⟩ := ByteArray.ext (Array.eq_empty_of_size_eq_zero (Nat.eq_of_beq_eq_true hb))
        subst hs
        exact (dom_nil w).mono fun e w' ⟨he, hB⟩ => ⟨⟨_, _, he, hq, fun _ => .b _⟩, hB⟩
      | false =>
        have h := h.2 hb
        cases hb2 : (s.data.toList == [48, 104, 46, 120]) with
        | true =>
          have hq := h.1 hb2
          rw [ba_eq (s := s) (t := ohx) hb2]
          exact (dom_ohx w).mono fun e w' ⟨he, hB⟩ => ⟨⟨_, _, he, hq, fun _ => .b _⟩, hB⟩
        | false =>
          have h := h.2 hb2
          have h : (T.br (s.data.toList == [104, 46, 120] || (s.data.toList == [97, 45, 98, 46, 99] || s.data.toList == [91, 49, 46, 50, 46, 51, 46, 52, 93])) (.ret (.b true)) .fail).holds Q (fun _ _ => False) := h
          obtain ⟨hb, hq⟩ := br_ok h
          have key : Calls Tryz.prog 44 #[.string s] w fun e w' => e = .returned (.bool true) ∧ Below w.heap.size w w' := by
            rcases Bool.or_eq_true_iff.1 hb with h | h
            · rw [ba_eq (t := hx) h]; exact dom_hx w
            · rcases Bool.or_eq_true_iff.1 h with h | h
              · rw [ba_eq (t := abc) h]; exact dom_abc w
              · rw [ba_eq (t := brk) h]; exact dom_brk w
          exact key.mono fun e w' ⟨he, hB⟩ => ⟨⟨_, _, he, hq, fun _ => .b _⟩, hB⟩
  · exact h.elim
end Go.Proofs.TabZ
