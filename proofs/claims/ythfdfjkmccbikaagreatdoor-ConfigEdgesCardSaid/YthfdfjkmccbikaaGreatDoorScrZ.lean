/- What an argument of these laws may be, in columns, and how a law about columns becomes one about calls; without conditions. -/
import Derived.Test.YthfdfjkmccbikaaGreatDoorSetZ
import Derived.Test.YthfdfjkmccbikaaGreatDoorEngMd
import Derived.Test.YthfdfjkmccbikaaGreatDoorTie
import Derived.ProofKit
import Derived.ChangeVars
import Derived.LaidLaws
import Derived.LaidHandle
import Derived.LaidMore
import Derived.OpenShut
import Derived.Lay
import Derived.Stop.Joined
set_option linter.all false
set_option linter.deprecated false
set_option maxRecDepth 1000000
set_option maxHeartbeats 4000000
namespace Go.Proofs.YthfdfjkmccbikaaGreatDoor
open Go.ChangeShapes Go.WideShapes Go.ChangeAt Go.RowKit
open Go.Eng Go.Proofs.TabZ
theorem Tryz.own : ownKnob Tryz.prog.godebug = none := by kernel_rfl
theorem Tryz.laidOut : laidOutB Tryz.prog = true := by kernel_rfl
def kT : List SK := [.str, .int .i64, .int .i64, .int .i64, .int .i64, .int .i64, .int .i64, .int .i64, .int .i64, .bool]
def kB : List SK := [.int .i64]
def kA : List SK := [.sl 10 fun c => kT.getD c .bool, .str, .int .i64, .int .i64, .sl 1 fun c => kB.getD c .bool, .int .i64, .int .i64, .flt .f64, .int .u64, .str]
def ks22 : List SK := [.sl 10 fun c => kA.getD c .bool]
theorem sh22 : shapeL Tryz.prog 8 22 = some ks22 := by kernel_rfl
theorem memOne (o : AObj) : (⟨1, 1, upd (fun _ => .dead) 0 o⟩ : Mem) = memL 1 [o] := by
  unfold memL
  congr 1
  funext id
  cases id <;> rfl
abbrev laidZ : List (String × DataW Unit) := [("math/bits.deBruijn32tab", Rows.laid_math_bits_deBruijn32tab), ("math/bits.deBruijn64tab", Rows.laid_math_bits_deBruijn64tab), ("internal/strconv.uint64pow10", Rows.laid_internal_strconv_uint64pow10), ("unicode/utf8.acceptRanges", Rows.laid_unicode_utf8_acceptRanges), ("strconv.ErrRange", Rows.laid_strconv_ErrRange), ("strconv.ErrSyntax", Rows.laid_strconv_ErrSyntax), ("unicode/utf8.first", Rows.laid_unicode_utf8_first)]
theorem door_met (os : Os) (args : Array Value) : laidMetH Tryz.prog laidZ ((World.laidAll Tryz.prog os laidZ).forCall (fun _ _ => 0) ⟨#[], args, []⟩).memory := by
  rw [MakeChecks.laidMetH_plain _ _ _ (by kernel_rfl)]
  exact laidMet_laidAll _ (by kernel_rfl) (by kernel_rfl)
theorem door_shaped (os : Os) : World.variablesZipB Tryz.prog (World.laidAll Tryz.prog os laidZ) = true := by kernel_rfl
theorem glob_laid {W : World} (h : laidMetH Tryz.prog laidZ W) : Glob ⟨W.heap.size, glZ⟩ W := by
  rw [MakeChecks.laidMetH_plain _ _ _ (by kernel_rfl)] at h
  exact laidP h (.tail _ (.tail _ (.head _)))
/-- A law that asks nothing of asks but how many there are. -/
theorem scr_ok {S : Sp} (hS : ∀ k, SOk Tryz.prog (nZ k) S) {f d : Nat} {z : Bool} (hSf : S f = none) {W : World} (hL : laidMetH Tryz.prog laidZ W) {held : Bool} {sp : Nat → Bool} {v : Value} {Hh : Type} {enc : TypeId × Value → Hh} {dd : DataW Hh} {p : List MemPlace} (ht : DataW.Trod enc Tryz.prog W 0 sp held 22 v dd p) (hv : ∃ a b c, v = .slice a b c)
    (law : ∀ (a : Bool) (n c : Nat) (x : List Col), H (evFun Tryz.prog (ttOf tts) S (fns z).get 1048576 d f [.sl 0 0 n (some c)] (memL 1 [.ro a n x])) (fun x => x.1 = .b true) (fun _ _ => False)) :
    Calls Tryz.prog f #[v] W fun e W' => e = .returned (.bool true) ∧ Below W.heap.size W W' := by
  refine law_callsG tok (fok z) hmix (L := 1048576) (d := d) (g := 8) (ks := ks22) sh22 (glob_laid hL) (hS _) (hSf := hSf) ht (arg := fun l => l.headD .top) ?_ ?_
  · obtain ⟨a, b, c, rfl⟩ := hv
    intro φ l h
    cases h with
    | cons h t => exact h
  · intro cols hfit
    obtain ⟨a0, cs, rfl, h0, k0, hfit⟩ := FitN.cons (n := 1) hfit
    obtain rfl := hfit.nil
    obtain ⟨nl, n, cap, sub, rfl, hnc, hcap, hnl, hfs⟩ := fit_sl1 h0 rfl k0
    have hM : argMem [.cl [(nl, n, cap)] sub] = memL 1 [.ro nl n (sub 0)] := by
      rw [← memOne]
      rfl
    rw [hM]
    exact law nl n cap _
end Go.Proofs.YthfdfjkmccbikaaGreatDoor
