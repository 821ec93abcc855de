/- What an argument of these laws may be, in columns, and how a law about columns becomes one about calls; without conditions. -/
import Derived.Test.YtnkglgcfemkibaaScrC
set_option linter.all false
set_option linter.deprecated false
set_option maxRecDepth 1000000
set_option maxHeartbeats 4000000
namespace Go.Proofs.Ytnkglgcfemkibaa
open Go.ChangeShapes Go.WideShapes Go.ChangeAt Go.RowKit
open Go.Eng Go.Proofs.TabC
def kG : List SK := [.str, .int .i64, .int .i64, .bool]
def kT : List SK := [.str, .int .i64, .int .i64]
def ks66 : List SK := [.sl 4 fun c => kG.getD c .bool, .sl 3 fun c => kT.getD c .bool]
theorem sh66 : shapeL Try.prog 8 66 = some ks66 := by kernel_rfl
/-- A law that asks nothing of a script but its lengths. -/
theorem grey_ok {S : Sp} (hS : ∀ N, SOk Try.prog N S) {f d : Nat} {z : Bool} (hSf : S f = none) {W : World} {held : Bool} {sp : Nat → Bool} {v : Value} {Hh : Type} {enc : TypeId × Value → Hh} {dd : DataW Hh} {p : List MemPlace} (ht : DataW.Trod enc Try.prog W 0 sp held 66 v dd p) (hv : ∃ a, v = .agg a)
    (law : ∀ (nl nl2 : Bool) (n n2 cap cap2 : Nat) (c1 c2 : List Col), n2 ≤ maxLen →
      H (evFun Try.prog (ttOf tts) S (fns z).get 1048576 d f [.agg [.sl 0 0 n (some cap), .sl 1 0 n2 (some cap2)]] (memL 2 [.ro nl n c1, .ro nl2 n2 c2])) (fun x => x.1 = .b true) (fun _ _ => False)) :
    Calls Try.prog f #[v] W fun e W' => e = .returned (.bool true) ∧ Below W.heap.size W W' := by
  refine law_calls tok (fok z) hmix (L := 1048576) (d := d) (g := 8) (ks := ks66) sh66 (hS _) (hSf := hSf) ht (arg := fun l => .agg l) ?_ ?_
  · obtain ⟨a, rfl⟩ := hv
    intro φ l h
    exact .agg l a h
  · intro cols hfit
    obtain ⟨a0, cs, rfl, h0, k0, hfit⟩ := FitN.cons (n := 1) hfit
    obtain ⟨a1, cs, rfl, h1, k1, hfit⟩ := hfit.cons
    obtain rfl := hfit.nil
    obtain ⟨nl, n, cap, sub, rfl, hnc, hcap, hnl, hfs⟩ := fit_sl1 h0 rfl k0
    obtain ⟨nl2, n2, cap2, sub2, rfl, hnc2, hcap2, hnl2, hfs2⟩ := fit_sl1 h1 rfl k1
    have hM : argMem [.cl [(nl, n, cap)] sub, .cl [(nl2, n2, cap2)] sub2] = memL 2 [.ro nl n (sub 0), .ro nl2 n2 (sub2 0)] := by
      rw [← memTwo]
      rfl
    rw [hM]
    exact law nl nl2 n n2 cap cap2 _ _ (by omega)
end Go.Proofs.Ytnkglgcfemkibaa
