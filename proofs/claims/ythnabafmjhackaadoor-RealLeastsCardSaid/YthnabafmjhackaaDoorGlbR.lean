/- Lemmas about the evaluator of the code. -/
import Derived.Test.YthnabafmjhackaaDoorRows
import Derived.WalkKit
import Derived.WalkSpells
import Derived.WalkLawsBesides
import Derived.Laws.Bits64b
import Derived.Lib.TrailingZeros
import Derived.Lib.LaidTab
import Derived.Lib.LaidU8
import Derived.Test.YthnabafmjhackaaDoorBaseR
set_option linter.all false
set_option linter.deprecated false
set_option maxRecDepth 100000
namespace Go.Proofs.YthnabafmjhackaaDoor
open Go.RowKit
theorem tzKey : IntKind.u64.wrap (bits BinOp.and IntKind.u64 ((6755399441055744 : Int)) (IntKind.u64.wrap (-(6755399441055744 : Int))) * 285870213051353865) / 288230376151711744 = (22 : Int) := by decide +kernel
set_option maxHeartbeats 1000000 in
theorem tz_three (w : World) (hcell : w.cell? ⟨1, 22, none⟩ = some (.int .u8 51)) :
    Calls Tryd.prog 57 #[.int .u64 6755399441055744] w fun e w' => e = .returned (.int .i64 51) ∧ w' = w := by
  go_enter Tryd.func57, Tryd.ntmps57
  go_wp2_with (simp only [tzKey])
  go_ret
  exact ⟨rfl, rfl⟩
def tab64 : List Int := Lib.deBruijn64tab.map Int.ofNat
/-- The cells that stay. -/
def glR (b off : Nat) : Option Value := if b = 1 then (tab64[off]?).map (Value.int .u8) else none
theorem tabOf {W : World} {l : List (String × DataW Unit)} {d : DataW Unit} (h : laidMet Tryd.prog l W) (hm : ("math/bits.deBruijn64tab", d) ∈ l) (hd : d = Lib.tabData .u8 tab64) {t e : TypeId}
    (hty : (Tryd.prog.globals[1]?).map (·.type) = some t) (ht : Tryd.prog.underlying t = some (.array 64 e)) (he : Tryd.prog.underlying e = some (.int .u8)) (hce : Tryd.prog.cellsOf e = 1) (hct : Tryd.prog.cellsOf t = 64) (hg : Tryd.prog.globalNamed "math/bits.deBruijn64tab" = some 1) :
    Lib.TabIs Tryd.prog W "math/bits.deBruijn64tab" .u8 tab64 := by
  obtain ⟨g', t', cs, fuel, p, hg', ht', hvar, hr⟩ := Lib.laidMet.reads h hm
  obtain rfl := Option.some.inj (hg.symm.trans hg')
  obtain rfl := Option.some.inj (hty.symm.trans ht')
  unfold Lib.TabIs
  rw [hd] at hr
  rw [hvar, ← Lib.cells_of_tab ht he hce hct hr]
theorem cell_lt {w : World} {a : Addr} {v : Value} (h : w.cell? a = some v) : a.block < w.heap.size := by
  rcases Nat.lt_or_ge a.block w.heap.size with h1 | h1
  · exact h1
  · unfold World.cell? at h
    rw [Array.getElem?_eq_none h1] at h
    simp at h
theorem glob_of_tab {W : World} (h : Lib.TabIs Tryd.prog W "math/bits.deBruijn64tab" .u8 tab64) (hg : Tryd.prog.globalNamed "math/bits.deBruijn64tab" = some 1) : Eng.Glob ⟨W.heap.size, glR⟩ W := by
  intro b off v e
  have e : (if b = 1 then (tab64[off]?).map (Value.int .u8) else none) = some v := e
  split at e
  · rename_i hb
    subst hb
    obtain ⟨z, hz, rfl⟩ := Option.map_eq_some_iff.1 e
    have hlt : off < tab64.length := by
      rcases Nat.lt_or_ge off tab64.length with h1 | h1
      · exact h1
      · rw [List.getElem?_eq_none h1] at hz; cases hz
    have hc := h.cell hg off hlt
    have : tab64.getD off 0 = z := by rw [List.getD_eq_getElem?_getD, hz]; rfl
    rw [this] at hc
    exact ⟨cell_lt hc, hc⟩
  · cases e
theorem laidT (rest : List (String × DataW Unit)) (W : World) (h : laidMet Tryd.prog (("math/bits.deBruijn32tab", Rows.laid_math_bits_deBruijn32tab) :: ("math/bits.deBruijn64tab", Rows.laid_math_bits_deBruijn64tab) :: rest) W) : Eng.Glob ⟨W.heap.size, glR⟩ W :=
  glob_of_tab (tabOf h (.tail _ (.head _)) (by kernel_rfl) (t := 77) (e := 5) (by kernel_rfl) (by kernel_rfl) (by kernel_rfl) (by kernel_rfl) (by kernel_rfl) (by kernel_rfl)) (by kernel_rfl)
end Go.Proofs.YthnabafmjhackaaDoor
