/- What the library's strings.Builder does when it is written and told, by the kit's walks and the evaluator's relation; each names its conditions. -/
import Derived.Test.YthfdfjkmccbikaaGreatDoorDomZL
import Derived.Lib.Builder
import Derived.Lib.UnsafeStr
import Derived.Shelf.RegionOpenPlain
set_option linter.all false
set_option linter.deprecated false
set_option maxRecDepth 1000000
set_option maxHeartbeats 4000000
namespace Go.Proofs.TabZ
open Go Go.Eng Go.RowKit Go.Shelf
theorem lies_self {p : Program} {e : TypeId} {k d : Nat} (hd : p.depth = d + 1) (hs : p.cellsOf e ≠ 0) (hk : 1 ≤ k) (hl : sameLayout p p.depth e e = true) : liesAt p p.depth e k 0 e 1 = true := by
  have h1 : ∀ D, liesAt p (D + 1) e k 0 e 1 = (rowAt p (sameLayout p p.depth · e) p.depth e k 0 1 || match p.underlying e with | some (.array m u') => liesAt p D e k 0 u' (1 * m) | _ => false) := fun D => rfl
  have h2 : ∀ F D, F e = true → rowAt p F (D + 1) e k 0 1 = true := by
    intro F D hF
    simp only [rowAt, if_neg hs, Nat.zero_div, Nat.zero_mod, hF]
    simp [hk]
  have h3 : rowAt p (sameLayout p p.depth · e) p.depth e k 0 1 = true := by
    generalize hD : p.depth = D at *
    subst hd
    exact h2 _ _ hl
  have h4 : liesAt p p.depth e k 0 e 1 = liesAt p (d + 1) e k 0 e 1 := by rw [hd]
  rw [h4, h1, h3]; rfl
theorem cells66 : Tryz.prog.cellsOf 66 = 2 := by kernel_rfl
theorem info66 : (Tryz.prog.info? 66).map (·.size) = some 2 := by kernel_rfl
theorem lies66 {k : Nat} (hk : 1 ≤ k) : liesAt Tryz.prog Tryz.prog.depth 66 (k * 2 / Tryz.prog.cellsOf 66) 0 66 1 = true := by
  rw [cells66, Nat.mul_div_cancel _ (by decide)]
  obtain ⟨d, hd⟩ : ∃ d, Tryz.prog.depth = d + 1 := ⟨Tryz.prog.depth - 1, by have : 0 < Tryz.prog.depth := of_decide_eq_true (by kernel_rfl); omega⟩
  exact lies_self hd (by rw [cells66]; decide) hk (by kernel_rfl)
/-- copyCheck at a builder that has been used. -/
theorem cc_used (b : Nat) (w : World) (h0 : w.cell? ⟨b, 0, none⟩ = some (.pointer (some ⟨b, 0, none⟩))) :
    Calls Tryz.prog 47 #[.pointer (some ⟨b, 0, none⟩)] w fun e w' => e = .returned (.tuple #[]) ∧ w' = w := by
  obtain ⟨j, hj, _⟩ := Option.map_eq_some_iff.1 info66
  go_enter Tryz.func47, Tryz.ntmps47
  go_wp2
  rw [Lib.run_neq_ptr_same w _ Tryz.underlying63 hj]
  go_wp2
  go_end0
  exact ⟨rfl, rfl⟩
/-- copyCheck at a fresh builder. -/
theorem cc_fresh (b k : Nat) (hk : 1 ≤ k) (w : World) (h0 : w.cell? ⟨b, 0, none⟩ = some (.pointer none)) (hsh : w.shape? b = some (66, k * 2)) (hfz : w.frozen? ⟨b, 0, none⟩ = false) :
    Calls Tryz.prog 47 #[.pointer (some ⟨b, 0, none⟩)] w fun e w' => e = .returned (.tuple #[]) ∧ w' = w.setCell ⟨b, 0, none⟩ (.pointer (some ⟨b, 0, none⟩)) := by
  obtain ⟨j, hj, hjs⟩ := Option.map_eq_some_iff.1 info66
  go_enter Tryz.func47, Tryz.ntmps47
  go_wp2
  rw [Lib.run_to_unsafe w ⟨b, 0, none⟩ Tryz.underlying63 Tryz.underlying103 hj (by rw [hjs]; decide) hsh (by simp only; omega)]
  simp only [Result.andThen]
  rw [Oper.upon_value]
  go_wp2
  rw [run_callFunc_extern Tryz.func63 (by kernel_rfl) (by kernel_rfl) (by kernel_rfl) (e := Extern.AbiNoEscape.same) (by kernel_rfl)]
  rw [Lib.run_noEscape]
  simp only [Result.andThen]
  rw [Oper.upon_value]
  go_wp2
  rw [Lib.run_from_unsafe w ⟨b, 0, none⟩ Tryz.underlying103 Tryz.underlying63 hj hsh (lies66 hk)]
  simp only [Result.andThen]
  rw [Oper.upon_value]
  go_wp2
  go_end0
  exact ⟨rfl, rfl⟩
end Go.Proofs.TabZ
