/- What an argument of these laws may be, in columns, and how a law about columns becomes one about calls; without conditions. -/
import Derived.Test.YtpaiioipoibahaaRepP
import Derived.Test.YtpaiioipoibahaaEngMc
import Derived.Test.YtpaiioipoibahaaRows
import Derived.ProofKit
set_option linter.all false
set_option linter.deprecated false
set_option maxRecDepth 1000000
set_option maxHeartbeats 4000000
namespace Go.Proofs.Ytpaiioipoibahaa
open Go.ChangeShapes Go.WideShapes Go.ChangeAt Go.RowKit
open Go.Eng Go.Proofs.TabP

theorem Try.own : ownKnob Try.prog.godebug = none := by kernel_rfl
theorem Try.laidOut : laidOutB Try.prog = true := by kernel_rfl
def kS : List SK := [.str]
def kAsk : List SK := [.int .i64, .sl 1 fun c => kS.getD c .bool, .sl 1 fun c => kS.getD c .bool]
def ks65 : List SK := [.sl 3 fun c => kAsk.getD c .bool]
theorem sh65 : shapeL Try.prog 8 65 = some ks65 := by kernel_rfl
theorem memOne (o : AObj) : (⟨1, 1, upd (fun _ => .dead) 0 o⟩ : Mem) = memL 1 [o] := by
  unfold memL
  congr 1
  funext id
  cases id <;> rfl
/-- A law that asks nothing of its rows but how many they are. -/
theorem rows_ok {S : Sp} (hS : ∀ N, SOk Try.prog N S) {f d : Nat} {z : Bool} (hSf : S f = none) {W : World} {held : Bool} {sp : Nat → Bool} {v : Value} {Hh : Type} {enc : TypeId × Value → Hh} {dd : DataW Hh} {p : List MemPlace} (ht : DataW.Trod enc Try.prog W 0 sp held 65 v dd p) (hv : ∃ a b c, v = .slice a b c)
    (law : ∀ (nl : Bool) (n cap : Nat) (c1 : List Col), H (evFun Try.prog (ttOf tts) S (fns z).get 1048576 d f [.sl 0 0 n (some cap)] (memL 1 [.ro nl n c1])) (fun x => x.1 = .b true) (fun _ _ => False)) :
    Calls Try.prog f #[v] W fun e W' => e = .returned (.bool true) ∧ Below W.heap.size W W' := by
  refine law_calls tok (fok z) hmix (L := 1048576) (d := d) (g := 8) (ks := ks65) sh65 (hS _) (hSf := hSf) ht (arg := fun l => l.headD .top) ?_ ?_
  · obtain ⟨a, b, c, rfl⟩ := hv
    intro φ l h
    cases h with
    | cons h t => exact h
  · intro cols hfit
    obtain ⟨a0, cs, rfl, h0, k0, hfit⟩ := FitN.cons (n := 1) hfit
    obtain rfl := hfit.nil
    obtain ⟨nl, n, cap, sub, rfl, hnc, hcap, hnl, hfs⟩ := fit_sl1 h0 rfl k0
    have hM : argMem [.cl [(nl, n, cap)] sub] = memL 1 [.ro nl n (sub 0)] := by
      rw [← memOne]
      rfl
    rw [hM]
    exact law nl n cap _
end Go.Proofs.Ytpaiioipoibahaa
