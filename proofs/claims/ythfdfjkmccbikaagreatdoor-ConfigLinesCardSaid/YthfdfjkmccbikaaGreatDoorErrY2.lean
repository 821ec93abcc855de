/- Errors of strconv: a copy of a text, a new error, an inner error as an outer one, by the kit's walks; each names its conditions. -/
import Derived.Test.YthfdfjkmccbikaaGreatDoorErrY
set_option linter.all false
set_option linter.deprecated false
set_option maxRecDepth 100000
namespace Go.Proofs.TabZ
open Go Go.Eng Go.RowKit Go.Shelf
set_option maxHeartbeats 6400000 in
/-- A pointer to a new error. -/
theorem syn_calls (fn s : ByteArray) (te : TypeId) (pe : Value) (w : World) (hlim : s.size ≤ 281474976710656) (hv : w.cell? ⟨4, 0, none⟩ = some (.iface te pe)) :
    Calls Tryz.prog 97 #[.string fn, .string s] w fun e w' => ∃ N, e = .returned (.pointer (some ⟨N, 0, none⟩)) ∧ Below w.heap.size w w' := by
  have mixed : Tryz.prog.follows .mixedOrders = true := hmix
  have e116 : ∀ args w, (callFunc 116 args).run Tryz.prog w = .ok (.enter 116 args) w := enters_of Tryz.func116 (by kernel_rfl) rfl
  have hG : 4 < w.heap.size := Lib.lt_of_cell hv
  have hvd : w.drew.cell? ⟨4, 0, none⟩ = some _ := hv
  go_enter Tryz.func97, Tryz.ntmps97
  go_wp2
  go_region_with_o (
      go_at_fn (116)
      refine (clone_calls s _ hlim).mono ?_
      rintro e w2 ⟨rfl, hbel⟩
      have hv2 : w2.cell? ⟨4, 0, none⟩ = some _ := (hbel.cell (show (⟨4, 0, none⟩ : Addr).block < w.drew.heap.size from hG)).trans hvd)
  all_goals (
    go_wp2
    go_ret
    have hs2 : w.heap.size ≤ w2.heap.size := hbel.size
    exact ⟨_, rfl, ((Below.drew (Below.refl _ w)).trans hbel).alloc hs2 _⟩)
set_option maxHeartbeats 6400000 in
theorem rng_calls (fn s : ByteArray) (te : TypeId) (pe : Value) (w : World) (hlim : s.size ≤ 281474976710656) (hv : w.cell? ⟨5, 0, none⟩ = some (.iface te pe)) :
    Calls Tryz.prog 98 #[.string fn, .string s] w fun e w' => ∃ N, e = .returned (.pointer (some ⟨N, 0, none⟩)) ∧ Below w.heap.size w w' := by
  have mixed : Tryz.prog.follows .mixedOrders = true := hmix
  have e116 : ∀ args w, (callFunc 116 args).run Tryz.prog w = .ok (.enter 116 args) w := enters_of Tryz.func116 (by kernel_rfl) rfl
  have hG : 5 < w.heap.size := Lib.lt_of_cell hv
  have hvd : w.drew.cell? ⟨5, 0, none⟩ = some _ := hv
  go_enter Tryz.func98, Tryz.ntmps98
  go_wp2
  go_region_with_o (
      go_at_fn (116)
      refine (clone_calls s _ hlim).mono ?_
      rintro e w2 ⟨rfl, hbel⟩
      have hv2 : w2.cell? ⟨5, 0, none⟩ = some _ := (hbel.cell (show (⟨5, 0, none⟩ : Addr).block < w.drew.heap.size from hG)).trans hvd)
  all_goals (
    go_wp2
    go_ret
    have hs2 : w.heap.size ≤ w2.heap.size := hbel.size
    exact ⟨_, rfl, ((Below.drew (Below.refl _ w)).trans hbel).alloc hs2 _⟩)
set_option maxHeartbeats 4000000 in
theorem toe_syn (fn s : ByteArray) (base bits : Int) (te : TypeId) (pe : Value) (w : World) (hlim : s.size ≤ 281474976710656) (hv : w.cell? ⟨4, 0, none⟩ = some (.iface te pe)) :
    Calls Tryz.prog 78 #[.string fn, .string s, .int .i64 base, .int .i64 bits, .iface 129 (.int .i64 2)] w fun e w' => ∃ N, e = .returned (.iface 132 (.pointer (some ⟨N, 0, none⟩))) ∧ Below w.heap.size w w' := by
  have mixed : Tryz.prog.follows .mixedOrders = true := hmix
  have e97 : ∀ args w, (callFunc 97 args).run Tryz.prog w = .ok (.enter 97 args) w := enters_of Tryz.func97 (by kernel_rfl) rfl
  have heq : ∀ W, (binOp .eql 68 (.iface 129 (.int .i64 2)) (.iface 129 (.int .i64 2))).run Tryz.prog W = .ok (.bool true) W := fun W => Lib.run_eql_iface_int W 2 2 Tryz.underlying68 (by kernel_rfl) Tryz.underlying129
  go_enter Tryz.func78, Tryz.ntmps78
  go_wp2_with (go_at_fn (97); refine (syn_calls fn s te pe _ hlim ?_).mono ?_)
  · exact hv
  rintro e w2 ⟨N, rfl, h3⟩
  go_wp2
  go_ret
  exact ⟨N, rfl, h3⟩
set_option maxHeartbeats 4000000 in
theorem toe_rng (fn s : ByteArray) (base bits : Int) (te : TypeId) (pe : Value) (w : World) (hlim : s.size ≤ 281474976710656) (hv : w.cell? ⟨5, 0, none⟩ = some (.iface te pe)) :
    Calls Tryz.prog 78 #[.string fn, .string s, .int .i64 base, .int .i64 bits, .iface 129 (.int .i64 1)] w fun e w' => ∃ N, e = .returned (.iface 132 (.pointer (some ⟨N, 0, none⟩))) ∧ Below w.heap.size w w' := by
  have mixed : Tryz.prog.follows .mixedOrders = true := hmix
  have e98 : ∀ args w, (callFunc 98 args).run Tryz.prog w = .ok (.enter 98 args) w := enters_of Tryz.func98 (by kernel_rfl) rfl
  have heq : ∀ W, (binOp .eql 68 (.iface 129 (.int .i64 1)) (.iface 129 (.int .i64 2))).run Tryz.prog W = .ok (.bool false) W := fun W => Lib.run_eql_iface_int W 1 2 Tryz.underlying68 (by kernel_rfl) Tryz.underlying129
  have heq2 : ∀ W, (binOp .eql 68 (.iface 129 (.int .i64 1)) (.iface 129 (.int .i64 1))).run Tryz.prog W = .ok (.bool true) W := fun W => Lib.run_eql_iface_int W 1 1 Tryz.underlying68 (by kernel_rfl) Tryz.underlying129
  go_enter Tryz.func78, Tryz.ntmps78
  go_wp2_with (go_at_fn (98); refine (rng_calls fn s te pe _ hlim ?_).mono ?_)
  · exact hv
  rintro e w2 ⟨N, rfl, h3⟩
  go_wp2
  go_ret
  exact ⟨N, rfl, h3⟩
end Go.Proofs.TabZ
