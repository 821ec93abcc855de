/- What an argument of these laws may be, in columns, and how a law about columns becomes one about calls; without conditions. -/
import Derived.Test.YthnabafmjhackaaDoorSetR
import Derived.Test.YthnabafmjhackaaDoorTie
import Derived.ProofKit
import Derived.ChangeVars
import Derived.LaidLaws
import Derived.LaidHandle
import Derived.LaidMore
import Derived.OpenShut
import Derived.Stop.Joined
set_option linter.all false
set_option linter.deprecated false
set_option maxRecDepth 1000000
set_option maxHeartbeats 4000000
namespace Go.Proofs.YthnabafmjhackaaDoor
open Go.ChangeShapes Go.WideShapes Go.ChangeAt Go.RowKit
open Go.Eng Go.Proofs.TabR
theorem Tryd.own : ownKnob Tryd.prog.godebug = none := by kernel_rfl
theorem Tryd.laidOut : laidOutB Tryd.prog = true := by kernel_rfl
def ks23 : List SK := [.int .u64]
def ks22 : List SK := [.sl 1 fun c => ks23.getD c .bool]
theorem sh22 : shapeL Tryd.prog 8 22 = some ks22 := by kernel_rfl
theorem memOne (o : AObj) : (⟨1, 1, upd (fun _ => .dead) 0 o⟩ : Mem) = memL 1 [o] := by
  unfold memL
  congr 1
  funext id
  cases id <;> rfl
theorem wfu64 (x : Int) (h : (Lit.int .u64 x).wf = true) : 0 ≤ x ∧ x < 18446744073709551616 := by
  simp [Lit.wf, IntKind.min, IntKind.max, IntKind.signed, IntKind.bits] at h
  omega
abbrev laidR : List (String × DataW Unit) := [("math/bits.deBruijn32tab", Rows.laid_math_bits_deBruijn32tab), ("math/bits.deBruijn64tab", Rows.laid_math_bits_deBruijn64tab), ("internal/strconv.uint64pow10", Rows.laid_internal_strconv_uint64pow10)]
theorem door_met (os : Os) (args : Array Value) : laidMetH Tryd.prog laidR ((World.doorLaid Tryd.prog 62 os).forCall (fun _ _ => 0) ⟨#[], args, []⟩).memory :=
  laidMetH_of_parts3 (fuel := 8) (laidMet_of_run' 8 (by kernel_rfl) (by kernel_rfl)) (by kernel_rfl) (by kernel_rfl)
theorem glob_laid {W : World} (h : laidMetH Tryd.prog laidR W) : Glob ⟨W.heap.size, glR⟩ W := laidT _ W h
/-- A law of a list of words. -/
theorem list_ok {S : Sp} (hS : ∀ k, SOk Tryd.prog (nR k) S) {f : FuncId} (hSf : S f = none) {W : World} (hL : laidMetH Tryd.prog laidR W) {held : Bool} {sp : Nat → Bool} {v : Value} {Hh : Type} {enc : TypeId × Value → Hh} {dd : DataW Hh} {p : List MemPlace} (ht : DataW.Trod enc Tryd.prog W 0 sp held 22 v dd p) (hv : ∃ a b c, v = .slice a b c)
    (law : ∀ (nl : Bool) (n cap : Nat) (l : List Int), l.length = n → (∀ x ∈ l, 0 ≤ x ∧ x < 18446744073709551616) →
      H (ev S 5 f [.sl 0 0 n (some cap)] (memL 1 [.ro nl n [.ci .u64 l]])) (fun x => x.1 = .b true) (fun _ _ => False)) :
    Calls Tryd.prog f #[v] W fun e W' => e = .returned (.bool true) ∧ Below W.heap.size W W' := by
  refine law_callsG tok (fok false) hmix (L := 1048576) (d := 5) (g := 8) (ks := ks22) sh22 (glob_laid hL) (hS _) (hSf := hSf) ht (arg := fun l => l.headD .top) ?_ ?_
  · obtain ⟨a, b, c, rfl⟩ := hv
    intro φ l h
    cases h with
    | cons h t => exact h
  · intro cols hfit
    obtain ⟨a0, cs, rfl, h0, k0, hfit⟩ := FitN.cons (n := 1) hfit
    obtain rfl := hfit.nil
    obtain ⟨nl, n, cap, sub, rfl, hnc, hcap, hnl, hfs⟩ := fit_sl1 h0 rfl k0
    obtain ⟨b0, cs, e0, g0, m0, hfs⟩ := hfs.cons
    obtain rfl := hfs.nil
    obtain ⟨l, rfl, y0⟩ := fit_int g0
    have hM : argMem [.cl [(nl, n, cap)] sub] = memL 1 [.ro nl n [.ci .u64 l]] := by
      rw [← e0, ← memOne]
      rfl
    rw [hM]
    exact law nl n cap l m0 fun x hx => wfu64 x (y0 x hx)
end Go.Proofs.YthnabafmjhackaaDoor
