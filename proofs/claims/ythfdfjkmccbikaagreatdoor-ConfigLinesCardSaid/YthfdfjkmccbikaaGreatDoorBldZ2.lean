/- What the library's strings.Builder does when it is written and told, by the kit's walks and the evaluator's relation; each names its conditions. -/
import Derived.Test.YthfdfjkmccbikaaGreatDoorBldZ
set_option linter.all false
set_option linter.deprecated false
set_option maxRecDepth 1000000
set_option maxHeartbeats 4000000
namespace Go.Proofs.TabZ
open Go Go.Eng Go.RowKit Go.Shelf
/-- The text that a builder holds. -/
theorem str_calls (b g cap K : Nat) (l : List UInt8) (w : World) (h0 : l ≠ []) (hn : l.length ≤ K) (h63 : l.length ≤ 9223372036854775807) (hc : l.length ≤ cap) (hc1 : w.cell? ⟨b, 1, none⟩ = some (.slice (some ⟨g, 0, none⟩) l.length cap)) (hsh : w.shape? g = some (5, K))
    (hcell : ∀ j x, l[j]? = some x → w.cell? ((⟨g, 0, none⟩ : Addr).add j) = some (.int .u8 x.toNat)) :
    Calls Tryz.prog 30 #[.pointer (some ⟨b, 0, none⟩)] w fun e w' => e = .returned (.string ⟨l.toArray⟩) ∧ w' = w.drew.freeze ⟨g, 0, none⟩ l.length := by
  have hl0 : l.length ≠ 0 := by simpa using h0
  have c1 : w.drew.cell? ⟨b, 1, none⟩ = some (.slice (some ⟨g, 0, none⟩) l.length cap) := hc1
  have hSD : (Builtin.unsafeSliceData_ #[64] 94 #[.slice (some ⟨g, 0, none⟩) l.length cap]).run Tryz.prog w.drew = .ok (.pointer (some ⟨g, 0, none⟩)) w.drew :=
    Lib.run_unsafeSliceData_row _ _ _ _ _ _ (by omega)
  have hUS : (Builtin.unsafeString_ #[94, 3] 9 #[.pointer (some ⟨g, 0, none⟩), .int .i64 l.length]).run Tryz.prog w.drew = .ok (.string ⟨l.toArray⟩) (w.drew.freeze ⟨g, 0, none⟩ l.length) :=
    Lib.run_unsafeString_row w.drew 94 3 9 5 Tryz.underlying94 (by kernel_rfl) g K hsh l h0 hn h63 hcell
  have mixed : Tryz.prog.follows .mixedOrders = true := hmix
  go_enter Tryz.func30, Tryz.ntmps30
  go_wp2
  go_region_o
  all_goals (go_wp2; go_ret; exact ⟨rfl, rfl⟩)
end Go.Proofs.TabZ
