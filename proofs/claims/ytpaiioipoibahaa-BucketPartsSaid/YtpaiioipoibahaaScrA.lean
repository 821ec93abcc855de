/- What an argument of these laws may be, in columns, and how a law about columns becomes one about calls; without conditions. -/
import Derived.Test.YtpaiioipoibahaaArgA
import Derived.Test.YtpaiioipoibahaaEngMc
import Derived.Test.YtpaiioipoibahaaRows
import Derived.ProofKit
set_option linter.all false
set_option linter.deprecated false
set_option maxRecDepth 1000000
set_option maxHeartbeats 4000000
namespace Go.Proofs.Ytpaiioipoibahaa
open Go.ChangeShapes Go.WideShapes Go.ChangeAt Go.RowKit
open Go.Eng Go.Proofs.TabA

theorem Try.own : ownKnob Try.prog.godebug = none := by kernel_rfl
theorem Try.laidOut : laidOutB Try.prog = true := by kernel_rfl

/-- The shape of a script. -/
def ks53 : List SK := [.int .i64, .int .i64, .int .i64, .int .i64]
def ks51 : List SK := [.int .i64, .int .i64, .int .i64, .int .i64, .int .i64, .sl 4 fun c => ks53.getD c .bool]
theorem sh51 : shapeL Try.prog 8 51 = some ks51 := by kernel_rfl
theorem memOne (o : AObj) : (⟨1, 1, upd (fun _ => .dead) 0 o⟩ : Mem) = memL 1 [o] := by
  unfold memL
  congr 1
  funext id
  cases id <;> rfl
theorem script_ok {f : FuncId} (hSf : S2 f = none) {W : World} {held : Bool} {sp : Nat → Bool} {v : Value} {Hh : Type} {enc : TypeId × Value → Hh} {dd : DataW Hh} {p : List MemPlace} (ht : DataW.Trod enc Try.prog W 0 sp held 51 v dd p) (hv : ∃ a, v = .agg a)
    (law : ∀ (l c f' e d : Int) (nl : Bool) (n cap : Nat) (x0 x1 x2 x3 : List Int), (∀ x ∈ [l, c, f', e, d], -9223372036854775808 ≤ x ∧ x < 9223372036854775808) → n ≤ maxLen → x0.length = n ∧ x1.length = n ∧ x2.length = n ∧ x3.length = n →
      (∀ x ∈ x0 ++ x1 ++ x2 ++ x3, -9223372036854775808 ≤ x ∧ x < 9223372036854775808) →
      H (ev S2 5 f [.agg [iv l, iv c, iv f', iv e, iv d, .sl 0 0 n (some cap)]] (memL 1 [.ro nl n [.ci .i64 x0, .ci .i64 x1, .ci .i64 x2, .ci .i64 x3]])) (fun x => x.1 = .b true) (fun _ _ => False)) :
    Calls Try.prog f #[v] W fun e W' => e = .returned (.bool true) ∧ Below W.heap.size W W' := by
  have wf : ∀ x : Int, (Lit.int .i64 x).wf = true → -9223372036854775808 ≤ x ∧ x < 9223372036854775808 := by
    intro x h
    simp [Lit.wf, IntKind.min, IntKind.max, IntKind.signed, IntKind.bits] at h
    omega
  refine law_calls tok (fok false) hmix (L := 1048576) (d := 5) (g := 8) (ks := ks51) sh51 (s2 _) (hSf := hSf) ht (arg := fun l => .agg l) ?_ ?_
  · obtain ⟨a, rfl⟩ := hv
    intro φ l h
    exact .agg l a h
  · intro cols hfit
    obtain ⟨a0, cs, rfl, h0, k0, hfit⟩ := FitN.cons (n := 1) hfit
    obtain ⟨a1, cs, rfl, h1, k1, hfit⟩ := hfit.cons
    obtain ⟨a2, cs, rfl, h2, k2, hfit⟩ := hfit.cons
    obtain ⟨a3, cs, rfl, h3, k3, hfit⟩ := hfit.cons
    obtain ⟨a4, cs, rfl, h4, k4, hfit⟩ := hfit.cons
    obtain ⟨a5, cs, rfl, h5, k5, hfit⟩ := hfit.cons
    obtain rfl := hfit.nil
    obtain ⟨l, rfl, w0⟩ := fit_int1 h0 k0
    obtain ⟨c, rfl, w1⟩ := fit_int1 h1 k1
    obtain ⟨f', rfl, w2⟩ := fit_int1 h2 k2
    obtain ⟨e, rfl, w3⟩ := fit_int1 h3 k3
    obtain ⟨d, rfl, w4⟩ := fit_int1 h4 k4
    obtain ⟨nl, n, cap, sub, rfl, hnc, hcap, hnl, hfs⟩ := fit_sl1 h5 rfl k5
    obtain ⟨b0, cs, e0, g0, m0, hfs⟩ := hfs.cons
    obtain ⟨b1, cs, rfl, g1, m1, hfs⟩ := hfs.cons
    obtain ⟨b2, cs, rfl, g2, m2, hfs⟩ := hfs.cons
    obtain ⟨b3, cs, rfl, g3, m3, hfs⟩ := hfs.cons
    obtain rfl := hfs.nil
    obtain ⟨x0, rfl, y0⟩ := fit_int g0
    obtain ⟨x1, rfl, y1⟩ := fit_int g1
    obtain ⟨x2, rfl, y2⟩ := fit_int g2
    obtain ⟨x3, rfl, y3⟩ := fit_int g3
    have hM : argMem [.ci .i64 [l], .ci .i64 [c], .ci .i64 [f'], .ci .i64 [e], .ci .i64 [d], .cl [(nl, n, cap)] sub] = memL 1 [.ro nl n [.ci .i64 x0, .ci .i64 x1, .ci .i64 x2, .ci .i64 x3]] := by
      rw [← e0, ← memOne]
      rfl
    rw [hM]
    refine law l c f' e d nl n cap x0 x1 x2 x3 ?_ (by omega) ⟨m0, m1, m2, m3⟩ ?_
    · intro x hx
      simp only [List.mem_cons, List.not_mem_nil, or_false] at hx
      rcases hx with rfl | rfl | rfl | rfl | rfl <;> exact wf _ (by assumption)
    · intro x hx
      simp only [List.mem_append] at hx
      rcases hx with ((hx | hx) | hx) | hx
      · exact wf x (y0 x hx)
      · exact wf x (y1 x hx)
      · exact wf x (y2 x hx)
      · exact wf x (y3 x hx)
end Go.Proofs.Ytpaiioipoibahaa
