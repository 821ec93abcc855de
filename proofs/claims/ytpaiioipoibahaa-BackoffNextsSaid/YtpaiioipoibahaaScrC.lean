/- Lemmas about the evaluator of the code. -/
import Derived.Test.YtpaiioipoibahaaBkB
import Derived.Test.YtpaiioipoibahaaRows
import Derived.ProofKit
set_option linter.all false
set_option linter.deprecated false
set_option maxRecDepth 1000000
set_option maxHeartbeats 4000000
namespace Go.Proofs.Ytpaiioipoibahaa
open Go.ChangeShapes Go.WideShapes Go.ChangeAt Go.RowKit
open Go.Eng Go.Proofs.TabA

theorem Try.own : ownKnob Try.prog.godebug = none := by kernel_rfl
theorem Try.laidOut : laidOutB Try.prog = true := by kernel_rfl

def ks33 : List SK := [.int .i64]
def ks35 : List SK := [.sl 1 fun c => ks33.getD c .bool, .sl 1 fun c => ks33.getD c .bool]
theorem sh35 : shapeL Try.prog 8 35 = some ks35 := by kernel_rfl
theorem memTwo (o o2 : AObj) : (⟨2, 2, upd (upd (fun _ => .dead) 0 o) 1 o2⟩ : Mem) = memL 2 [o, o2] := by
  unfold memL
  congr 1
  funext id
  match id with
  | 0 => rfl
  | 1 => rfl
  | _ + 2 => rfl
theorem wf64 (x : Int) (h : (Lit.int .i64 x).wf = true) : -9223372036854775808 ≤ x ∧ x < 9223372036854775808 := by
  simp [Lit.wf, IntKind.min, IntKind.max, IntKind.signed, IntKind.bits] at h
  omega
theorem tables_ok {S : Sp} (hS : ∀ N, SOk Try.prog N S) {f : FuncId} {W : World} {held : Bool} {sp : Nat → Bool} {v : Value} {Hh : Type} {enc : TypeId × Value → Hh} {dd : DataW Hh} {p : List MemPlace} (ht : DataW.Trod enc Try.prog W 0 sp held 35 v dd p) (hv : ∃ a, v = .agg a)
    (law : ∀ (nl nl2 : Bool) (n cap n2 cap2 : Nat) (l q : List Int), l.length = n → q.length = n2 → (∀ x ∈ l ++ q, -9223372036854775808 ≤ x ∧ x < 9223372036854775808) →
      H (ev S 5 f [.agg [.sl 0 0 n (some cap), .sl 1 0 n2 (some cap2)]] (memL 2 [.ro nl n [.ci .i64 l], .ro nl2 n2 [.ci .i64 q]])) (fun x => x.1 = .b true) (fun _ _ => False)) :
    Calls Try.prog f #[v] W fun e W' => e = .returned (.bool true) ∧ Below W.heap.size W W' := by
  refine law_calls tok (fok false) hmix (L := 1048576) (d := 5) (g := 8) (ks := ks35) sh35 (hS _) ht (arg := fun l => .agg l) ?_ ?_
  · obtain ⟨a, rfl⟩ := hv
    intro φ l h
    exact .agg l a h
  · intro cols hfit
    obtain ⟨a0, cs, rfl, h0, k0, hfit⟩ := FitN.cons (n := 1) hfit
    obtain ⟨a1, cs, rfl, h1, k1, hfit⟩ := hfit.cons
    obtain rfl := hfit.nil
    obtain ⟨nl, n, cap, sub, rfl, hnc, hcap, hnl, hfs⟩ := fit_sl1 h0 rfl k0
    obtain ⟨nl2, n2, cap2, sub2, rfl, hnc2, hcap2, hnl2, hfs2⟩ := fit_sl1 h1 rfl k1
    obtain ⟨b0, cs, e0, g0, m0, hfs⟩ := hfs.cons
    obtain rfl := hfs.nil
    obtain ⟨b1, cs, e1, g1, m1, hfs2⟩ := hfs2.cons
    obtain rfl := hfs2.nil
    obtain ⟨l, rfl, y0⟩ := fit_int g0
    obtain ⟨q, rfl, y1⟩ := fit_int g1
    have hM : argMem [.cl [(nl, n, cap)] sub, .cl [(nl2, n2, cap2)] sub2] = memL 2 [.ro nl n [.ci .i64 l], .ro nl2 n2 [.ci .i64 q]] := by
      rw [← e0, ← e1, ← memTwo]
      rfl
    rw [hM]
    refine law nl nl2 n cap n2 cap2 l q m0 m1 fun x hx => ?_
    rcases List.mem_append.1 hx with hx | hx
    · exact wf64 x (y0 x hx)
    · exact wf64 x (y1 x hx)
end Go.Proofs.Ytpaiioipoibahaa
