/- What an argument of these laws may be, in columns, and how a law about columns becomes one about calls; without conditions. -/
import Derived.Test.YtnkglgcfemkibaaBaseC
import Derived.Test.YtnkglgcfemkibaaEngMc
import Derived.Test.YtnkglgcfemkibaaRows
import Derived.ProofKit
set_option linter.all false
set_option linter.deprecated false
set_option maxRecDepth 1000000
set_option maxHeartbeats 4000000
namespace Go.Proofs.Ytnkglgcfemkibaa
open Go.ChangeShapes Go.WideShapes Go.ChangeAt Go.RowKit
open Go.Eng Go.Proofs.TabC

theorem Try.own : ownKnob Try.prog.godebug = none := by kernel_rfl
theorem Try.laidOut : laidOutB Try.prog = true := by kernel_rfl
def kB : List SK := [.int .u8]
def kI : List SK := [.int .i64]
def kF : List SK := [.sl 1 fun c => kB.getD c .bool]
def kA : List SK := [.int .i64, .int .i64, .int .i64, .int .i64, .sl 1 fun c => kB.getD c .bool, .sl 1 fun c => kI.getD c .bool]
def ks25 : List SK := [.sl 1 fun c => kF.getD c .bool, .sl 6 fun c => kA.getD c .bool]
theorem sh25 : shapeL Try.prog 8 25 = some ks25 := by kernel_rfl
theorem memTwo (o o2 : AObj) : (⟨2, 2, upd (upd (fun _ => .dead) 0 o) 1 o2⟩ : Mem) = memL 2 [o, o2] := by
  unfold memL
  congr 1
  funext id
  match id with
  | 0 => rfl
  | 1 => rfl
  | _ + 2 => rfl
/-- A law that asks nothing of a script but its lengths. -/
theorem scr_ok {S : Sp} (hS : ∀ N, SOk Try.prog N S) {f d : Nat} {z : Bool} (hSf : S f = none) {W : World} {held : Bool} {sp : Nat → Bool} {v : Value} {Hh : Type} {enc : TypeId × Value → Hh} {dd : DataW Hh} {p : List MemPlace} (ht : DataW.Trod enc Try.prog W 0 sp held 25 v dd p) (hv : ∃ a, v = .agg a)
    (law : ∀ (nl nl2 : Bool) (n n2 cap cap2 : Nat) (c1 c2 : List Col), n2 ≤ maxLen →
      H (evFun Try.prog (ttOf tts) S (fns z).get 1048576 d f [.agg [.sl 0 0 n (some cap), .sl 1 0 n2 (some cap2)]] (memL 2 [.ro nl n c1, .ro nl2 n2 c2])) (fun x => x.1 = .b true) (fun _ _ => False)) :
    Calls Try.prog f #[v] W fun e W' => e = .returned (.bool true) ∧ Below W.heap.size W W' := by
  refine law_calls tok (fok z) hmix (L := 1048576) (d := d) (g := 8) (ks := ks25) sh25 (hS _) (hSf := hSf) ht (arg := fun l => .agg l) ?_ ?_
  · obtain ⟨a, rfl⟩ := hv
    intro φ l h
    exact .agg l a h
  · intro cols hfit
    obtain ⟨a0, cs, rfl, h0, k0, hfit⟩ := FitN.cons (n := 1) hfit
    obtain ⟨a1, cs, rfl, h1, k1, hfit⟩ := hfit.cons
    obtain rfl := hfit.nil
    obtain ⟨nl, n, cap, sub, rfl, hnc, hcap, hnl, hfs⟩ := fit_sl1 h0 rfl k0
    obtain ⟨nl2, n2, cap2, sub2, rfl, hnc2, hcap2, hnl2, hfs2⟩ := fit_sl1 h1 rfl k1
    have hM : argMem [.cl [(nl, n, cap)] sub, .cl [(nl2, n2, cap2)] sub2] = memL 2 [.ro nl n (sub 0), .ro nl2 n2 (sub2 0)] := by
      rw [← memTwo]
      rfl
    rw [hM]
    exact law nl nl2 n n2 cap cap2 _ _ (by omega)
end Go.Proofs.Ytnkglgcfemkibaa
