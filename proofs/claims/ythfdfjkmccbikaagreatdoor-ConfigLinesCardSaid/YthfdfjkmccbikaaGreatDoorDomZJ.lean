/- Whether a domain may be, at the domains that occur, proved by the evaluator and the kit's walk; each names its conditions. -/
import Derived.Test.YthfdfjkmccbikaaGreatDoorDomZI
set_option linter.all false
set_option linter.deprecated false
set_option maxRecDepth 1000000
set_option maxHeartbeats 4000000
namespace Go.Proofs.TabZ
open Go Go.Eng Go.RowKit Go.Shelf
attribute [local go_sem] Oper.semAt_some
/-- The world behind SplitSeq. -/
def boxed (s : ByteArray) (w : World) : World := ((w.alloc (.cells #[.string s] 9)).alloc (.cells #[.string dotS] 9)).alloc (.cells #[.int .i64 0] 3)
theorem split_calls (s : ByteArray) (w : World) : Calls Tryz.prog 60 #[.string s, .string dotS] w fun e w' => e = .returned (.func (.func 101) #[] #[pv (w.heap.size + 1), pv w.heap.size, pv (w.heap.size + 2)]) ∧ w' = boxed s w := by
  have hmf : ∀ (fn : Fn) (first cap : Array Value) (w : World), (Instr.makeFunc fn first cap).run Tryz.prog w = .ok (.func fn first cap) w := fun _ _ _ _ => rfl
  go_enter Tryz.func60, Tryz.ntmps60
  go_wp2
  go_ret
  exact ⟨rfl, rfl⟩
theorem dom_calls {s : ByteArray} {xs : List ByteArray} (hsz : s.size ≤ 255) (hlit : ∀ W, Calls Tryz.prog 45 #[.string s] W fun e W' => e = .returned (.bool false) ∧ Below W.heap.size W W')
    (hlab : ∀ x ∈ xs, ∀ W, Calls Tryz.prog 61 #[.string x] W fun e W' => e = .returned (.bool true) ∧ Below W.heap.size W W')
    (hit : ∀ n w, 4 ≤ n → Iter n #[pv (w.heap.size + 1), pv w.heap.size, pv (w.heap.size + 2)] w.heap.size xs (boxed s w)) (w : World) :
    Calls Tryz.prog 44 #[.string s] w fun e w' => e = .returned (.bool true) ∧ Below w.heap.size w w' := by
  refine (callsIn_wide (n := 6)).1 ?_
  refine callsIn_of_wp_marks Tryz.func44 rfl trivial ?_ rfl
  simp only [Tryz.ntmps44, List.size_toArray, List.length_cons, List.length_nil, Nat.reduceAdd, Nat.reduceSub, Array.replicate_succ, Array.replicate_zero, List.push_toArray, List.append_toArray, List.nil_append, List.cons_append]
  gi_wp2
  refine ⟨trivial, ?_⟩
  refine CallsIn.mono (callsIn_wide.2 (hlit _)) ?_
  rintro e w1 ⟨rfl, hb1⟩
  have hc1 : w1.cell? ⟨w.heap.size, 0, none⟩ = some (.bool false) := (hb1.cell (by simp)).trans (by simp)
  have hf1 : w1.frozen? ⟨w.heap.size, 0, none⟩ = false := (hb1.frozen (by simp)).trans (by simp)
  have hB1 : Below w.heap.size w w1 := ((Below.refl _ w).alloc (Nat.le_refl _) _).trans (hb1.mono (by simp))
  have hz1 : w.heap.size < w1.heap.size := by have := hb1.size; simp at this; omega
  gi_wp2
  refine ⟨trivial, ?_⟩
  refine CallsIn.mono (callsIn_wide.2 (split_calls s w1)) ?_
  rintro e w2 ⟨rfl, rfl⟩
  gi_wp2
  have hB2 : Below w1.heap.size w1 (boxed s w1) := (((Below.refl _ w1).alloc (Nat.le_refl _) _).alloc (by simp) _).alloc (by simp; omega) _
  have hz2 : (boxed s w1).heap.size = w1.heap.size + 3 := by simp [boxed]
  have hc2 : (boxed s w1).cell? ⟨w.heap.size, 0, none⟩ = some (.bool false) := (hB2.cell hz1).trans hc1
  have hf2 : (boxed s w1).frozen? ⟨w.heap.size, 0, none⟩ = false := (hB2.frozen hz1).trans hf1
  have hB3 : Below w.heap.size w (boxed s w1) := hB1.trans (hB2.mono (by omega))
  have hit' := hit 6 w1 (by omega)
  generalize boxed s w1 = W0 at hz2 hc2 hf2 hB3 hit' ⊢
  refine range_law (F := Fence.wide) rfl (by omega) (gf := 101) (lb := #[pv (w1.heap.size + 1), pv w1.heap.size, pv (w1.heap.size + 2)]) rfl trivial (enters_of Tryz.func101 (by kernel_rfl) rfl) (enc := Value.string) (Ok := (· ∈ xs)) (S := (· = xs)) (N := xs.length) (b2 := w1.heap.size) (by omega) rfl hit'
    (fun pre W => W.cell? ⟨w.heap.size, 0, none⟩ = some (.bool false) ∧ W.frozen? ⟨w.heap.size, 0, none⟩ = false ∧ Below w.heap.size w W) ?hI1 ?hI2 ?hI3 ⟨hc2, hf2, hB3⟩
    (fun x => { tmps := #[.string s, undef, pv w.heap.size, .string x, .string s, .bool false, undef, undef, undef, undef, undef, undef, undef, undef, undef, undef, .string s, .func (.func 101) #[] #[pv (w1.heap.size + 1), pv w1.heap.size, pv (w1.heap.size + 2)], .string x, undef, undef, undef, undef, undef, undef], defers := [] }) ?assign ?body ?done
  case hI1 =>
    rintro _ W W' ⟨a1, a2, a3⟩ hle hb
    exact ⟨(hb.cell (by simp only; omega)).trans a1, (hb.frozen (by simp only; omega)).trans a2, a3.trans (hb.mono (by omega))⟩
  case hI2 =>
    rintro _ W l o ⟨a1, a2, a3⟩ hle
    have hne : w.heap.size ≠ l := by omega
    refine ⟨(World.cell?_of_block (World.putObj_heap_other hne)).trans a1, (World.frozen?_of_block (World.putObj_heap_other hne)).trans a2, a3.trans ⟨rfl, rfl, rfl, by simp [World.putObj], fun k hk => World.putObj_heap_other (by omega)⟩⟩
  case hI3 =>
    rintro _ W v ⟨a1, a2, a3⟩
    have hne : w.heap.size ≠ w1.heap.size := by omega
    exact ⟨(World.cell?_of_block (Below.heap_setCell _ _ _ _ hne)).trans a1, (World.frozen?_of_block (Below.heap_setCell _ _ _ _ hne)).trans a2, a3.setCell (p := ⟨w1.heap.size, 0, none⟩) (by simp only; omega) _⟩
  case assign =>
    intro l x W K hK
    gi_wp2
    exact hK
  case body =>
    rintro l pre x W hx ⟨a1, a2, a3⟩ hle hlen
    gi_wp2
    refine ⟨trivial, ?_⟩
    refine CallsIn.mono (CallsIn.inRound l (callsIn_wide.2 (hlab x hx W))) ?_
    rintro e W' ⟨rfl, hb⟩
    gi_wp2
    exact ⟨(hb.cell (by simp only; omega)).trans a1, (hb.frozen (by simp only; omega)).trans a2, a3.trans (hb.mono (by omega))⟩
  case done =>
    rintro ys W rfl ⟨a1, a2, a3⟩ hK
    gi_wp2
    have hdec : decide ((s.size : Int) ≤ 255) = true := by simpa using (by omega : (s.size : Int) ≤ 255)
    have hKlt := (Array.getElem?_eq_some_iff.1 hK).1
    have hK' : (W.setCell ⟨w.heap.size, 0, none⟩ (.bool (decide ((s.size : Int) ≤ 255)))).heap[W0.heap.size]? = some (.deferred (some [])) := (Below.heap_setCell _ _ _ _ (by simp only; omega)).trans hK
    refine ⟨by simp, .inl ⟨_, _, rfl, run_takeDeferred hK', ?_⟩⟩
    have hc5 : ((W.setCell ⟨w.heap.size, 0, none⟩ (.bool (decide ((s.size : Int) ≤ 255)))).putObj W0.heap.size (.deferred none)).cell? ⟨w.heap.size, 0, none⟩ = some (.bool (decide ((s.size : Int) ≤ 255))) :=
      (World.cell?_of_block (World.putObj_heap_other (by simp only; omega))).trans (World.cell?_setCell_same' _ _ _ (by rw [a1]; rfl))
    refine ⟨.bool (decide ((s.size : Int) ≤ 255)), ?_, by rw [hdec], ?_⟩
    · simp [results, Tryz.f44, go_sem, hc5]
    · exact (a3.setCell (p := ⟨w.heap.size, 0, none⟩) (Nat.le_refl _) _).trans ⟨rfl, rfl, rfl, by simp [World.putObj], fun k hk => World.putObj_heap_other (by omega)⟩
end Go.Proofs.TabZ
