/- Whether a domain may be, at the domains that occur, proved by the evaluator and the kit's walk; each names its conditions. -/
import Derived.Test.YthfdfjkmccbikaaGreatDoorDomZK
set_option linter.all false
set_option linter.deprecated false
set_option maxRecDepth 1000000
set_option maxHeartbeats 4000000
namespace Go.Proofs.TabZ
open Go Go.Eng Go.RowKit Go.Shelf
attribute [local go_sem] Oper.semAt_some
theorem dom_brk (w : World) : Calls Tryz.prog 44 #[.string brk] w fun e w' => e = .returned (.bool true) ∧ Below w.heap.size w w' := by
  have hlit : ∀ W, Calls Tryz.prog 45 #[.string brk] W fun e W' => e = .returned (.bool true) ∧ Below W.heap.size W W' := toC (v := .b true) (rn (by kernel_rfl)) rfl (z1 _) (vb _)
  have hsuf : ∀ W, Calls Tryz.prog 58 #[.string brk, .string ⟨#[93]⟩] W fun e W' => e = .returned (.bool true) ∧ Below W.heap.size W W' := toC (v := .b true) (rn (by kernel_rfl)) rfl (z2 _ _) (vb _)
  have hin : ∀ W, Calls Tryz.prog 59 #[.string inn] W fun e W' => e = .returned (.bool true) ∧ Below W.heap.size W W' := toC (v := .b true) (rn (by kernel_rfl)) rfl (z1 _) (vb _)
  have hsz : brk.size = 9 := by decide +kernel
  have hex : brk.extract 1 8 = inn := by decide +kernel
  refine (callsIn_wide (n := 6)).1 ?_
  refine callsIn_of_wp Tryz.func44 rfl trivial ?_ rfl
  simp only [Tryz.ntmps44, List.size_toArray, List.length_cons, List.length_nil, Nat.reduceAdd, Nat.reduceSub, Array.replicate_succ, Array.replicate_zero, List.push_toArray, List.append_toArray, List.nil_append, List.cons_append]
  gi_wp2
  refine ⟨trivial, ?_⟩
  refine CallsIn.mono (callsIn_wide.2 (hlit _)) ?_
  rintro e w1 ⟨rfl, hb1⟩
  have hc1 : w1.cell? ⟨w.heap.size, 0, none⟩ = some (.bool false) := (hb1.cell (by simp)).trans (by simp)
  have hf1 : w1.frozen? ⟨w.heap.size, 0, none⟩ = false := (hb1.frozen (by simp)).trans (by simp)
  have hB1 : Below w.heap.size w w1 := ((Below.refl _ w).alloc (Nat.le_refl _) _).trans (hb1.mono (by simp))
  have hz1 : w.heap.size < w1.heap.size := by have := hb1.size; simp at this; omega
  gi_wp2
  refine ⟨trivial, ?_⟩
  refine CallsIn.mono (callsIn_wide.2 (hsuf _)) ?_
  rintro e w2 ⟨rfl, hb2⟩
  have hc2 := (hb2.cell hz1).trans hc1
  have hf2 := (hb2.frozen hz1).trans hf1
  have hB2 := hB1.trans (hb2.mono (by omega))
  have hz2 : w.heap.size < w2.heap.size := Nat.lt_of_lt_of_le hz1 hb2.size
  gi_wp2
  refine ⟨trivial, ?_⟩
  refine CallsIn.mono (callsIn_wide.2 (hin _)) ?_
  rintro e w3 ⟨rfl, hb3⟩
  have hc3 := (hb3.cell hz2).trans hc2
  have hf3 := (hb3.frozen hz2).trans hf2
  have hB3 := hB2.trans (hb3.mono (by omega))
  gi_wp2
  have hc5 : (w3.setCell ⟨w.heap.size, 0, none⟩ (.bool true)).cell? ⟨w.heap.size, 0, none⟩ = some (.bool true) := World.cell?_setCell_same' _ _ _ (by rw [hc3]; rfl)
  refine ⟨rfl, .bool true, ?_, rfl, ?_⟩
  · simp [results, Tryz.f44, go_sem, hc5]
  · exact hB3.setCell (p := ⟨w.heap.size, 0, none⟩) (Nat.le_refl _) _
noncomputable def g44 : List AV → T AV
  | [.s s] => .br (s.data.toList == [104, 46, 120] || (s.data.toList == [97, 45, 98, 46, 99] || s.data.toList == [91, 49, 46, 50, 46, 51, 46, 52, 93])) (.ret (.b true)) .fail
  | _ => .fail
theorem ba_eq {s t : ByteArray} (h : (s.data.toList == t.data.toList) = true) : s = t := ByteArray.ext (Array.ext' (eq_of_beq h))
theorem s44 {N : NB} {R : Sp} (hR : SOk Tryz.prog N R) : SOk Tryz.prog N (fun f => bif2 (Nat.beq f 44) (some (treeS g44)) (R f)) := by
  refine sOk_below hR Tryz.func44 rfl (by kernel_rfl) ?_
  intro args Q h φ zs hz w
  unfold g44 at h
  split at h
  · obtain ⟨hb, hq⟩ := br_ok h
    cases hz with
    | cons h1 h2 =>
      cases h2
      cases h1
      rename_i s
      have key : Calls Tryz.prog 44 #[.string s] w fun e w' => e = .returned (.bool true) ∧ Below w.heap.size w w' := by
        rcases Bool.or_eq_true_iff.1 hb with h | h
        · rw [ba_eq (t := hx) h]; exact dom_hx w
        · rcases Bool.or_eq_true_iff.1 h with h | h
          · rw [ba_eq (t := abc) h]; exact dom_abc w
          · rw [ba_eq (t := brk) h]; exact dom_brk w
      exact key.mono fun e w' ⟨he, hB⟩ => ⟨⟨_, _, he, hq, fun _ => .b _⟩, hB⟩
  · exact h.elim
end Go.Proofs.TabZ
