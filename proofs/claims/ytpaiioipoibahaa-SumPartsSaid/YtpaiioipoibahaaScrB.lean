/- What an argument of these laws may be, in columns, and how a law about columns becomes one about calls; without conditions. -/
import Derived.Test.YtpaiioipoibahaaCrcC
import Derived.Test.YtpaiioipoibahaaRows
import Derived.ProofKit
set_option linter.all false
set_option linter.deprecated false
set_option maxRecDepth 1000000
set_option maxHeartbeats 4000000
namespace Go.Proofs.Ytpaiioipoibahaa
open Go.ChangeShapes Go.WideShapes Go.ChangeAt Go.RowKit
open Go.Eng Go.Proofs.TabA

theorem Try.own : ownKnob Try.prog.godebug = none := by kernel_rfl
theorem Try.laidOut : laidOutB Try.prog = true := by kernel_rfl

def ks24 : List SK := [.int .u8]
def ks26 : List SK := [.int .u32, .sl 1 fun c => ks24.getD c .bool, .int .i64]
def ks22 : List SK := [.sl 3 fun c => ks26.getD c .bool]
theorem sh22 : shapeL Try.prog 8 22 = some ks22 := by kernel_rfl
theorem memOne (o : AObj) : (⟨1, 1, upd (fun _ => .dead) 0 o⟩ : Mem) = memL 1 [o] := by
  unfold memL
  congr 1
  funext id
  cases id <;> rfl
theorem wf64 (x : Int) (h : (Lit.int .i64 x).wf = true) : -9223372036854775808 ≤ x ∧ x < 9223372036854775808 := by
  simp [Lit.wf, IntKind.min, IntKind.max, IntKind.signed, IntKind.bits] at h
  omega
theorem wf32 (x : Int) (h : (Lit.int .u32 x).wf = true) : 0 ≤ x ∧ x < 4294967296 := by
  simp [Lit.wf, IntKind.min, IntKind.max, IntKind.signed, IntKind.bits] at h
  omega
theorem wf8 (x : Int) (h : (Lit.int .u8 x).wf = true) : 0 ≤ x ∧ x < 256 := by
  simp [Lit.wf, IntKind.min, IntKind.max, IntKind.signed, IntKind.bits] at h
  omega
/-- What is known of asks. -/
structure Asks (n : Nat) (xs xn : List Int) (hd : List (Bool × Nat × Nat)) (Y : Nat → List Int) : Prop where
  ls : xs.length = n
  ln : xn.length = n
  lh : hd.length = n
  ly : ∀ j, (Y j).length = (hd.getD j hd0).2.1
  ws : ∀ x ∈ xs, 0 ≤ x ∧ x < 4294967296
  wn : ∀ x ∈ xn, -9223372036854775808 ≤ x ∧ x < 9223372036854775808
  wy : ∀ j, ∀ x ∈ Y j, 0 ≤ x ∧ x < 256
theorem asks_ok {f : FuncId} (hSf : S3 f = none) {W : World} {held : Bool} {sp : Nat → Bool} {v : Value} {Hh : Type} {enc : TypeId × Value → Hh} {dd : DataW Hh} {p : List MemPlace} (ht : DataW.Trod enc Try.prog W 0 sp held 22 v dd p) (hv : ∃ a b c, v = .slice a b c)
    (law : ∀ (nl : Bool) (n cap : Nat) (xs xn : List Int) (hd : List (Bool × Nat × Nat)) (Y : Nat → List Int), Asks n xs xn hd Y →
      H (ev S3 5 f [.sl 0 0 n (some cap)] (memL 1 [.ro nl n [.ci .u32 xs, .cl hd (fun j => [.ci .u8 (Y j)]), .ci .i64 xn]])) (fun x => x.1 = .b true) (fun _ _ => False)) :
    Calls Try.prog f #[v] W fun e W' => e = .returned (.bool true) ∧ Below W.heap.size W W' := by
  refine law_calls tok (fok false) hmix (L := 1048576) (d := 5) (g := 8) (ks := ks22) sh22 (s3 _) (hSf := hSf) ht (arg := fun l => l.headD .top) ?_ ?_
  · obtain ⟨a, b, c, rfl⟩ := hv
    intro φ l h
    cases h with
    | cons h t => exact h
  · intro cols hfit
    obtain ⟨a0, cs, rfl, h0, k0, hfit⟩ := FitN.cons (n := 1) hfit
    obtain rfl := hfit.nil
    obtain ⟨nl, n, cap, sub, rfl, hnc, hcap, hnl, hfs⟩ := fit_sl1 h0 rfl k0
    obtain ⟨b0, cs, e0, g0, m0, hfs⟩ := hfs.cons
    obtain ⟨b1, cs, rfl, g1, m1, hfs⟩ := hfs.cons
    obtain ⟨b2, cs, rfl, g2, m2, hfs⟩ := hfs.cons
    obtain rfl := hfs.nil
    obtain ⟨xs, rfl, y0⟩ := fit_int g0
    obtain ⟨hd, sub2, rfl, y1⟩ := fit_sl (ks := ks24) g1 rfl
    obtain ⟨xn, rfl, y2⟩ := fit_int g2
    obtain ⟨Y, rfl, hY⟩ := skolem (F := fun l => [.ci .u8 l]) (P := fun j l => l.length = (hd.getD j hd0).2.1 ∧ ∀ x ∈ l, (Lit.int .u8 x).wf = true) (fun j => by
      obtain ⟨_, _, _, hf⟩ := y1 j
      obtain ⟨c, cs, e, k1, k2, hf⟩ := hf.cons
      obtain rfl := hf.nil
      obtain ⟨l, rfl, k3⟩ := fit_int k1
      exact ⟨l, e, k2, k3⟩)
    have hM : argMem [.cl [(nl, n, cap)] sub] = memL 1 [.ro nl n [.ci .u32 xs, .cl hd (fun j => [.ci .u8 (Y j)]), .ci .i64 xn]] := by
      rw [← e0, ← memOne]
      rfl
    rw [hM]
    exact law nl n cap xs xn hd Y ⟨m0, m2, m1, fun j => (hY j).1, fun x hx => wf32 x (y0 x hx), fun x hx => wf64 x (y2 x hx), fun j x hx => wf8 x ((hY j).2 x hx)⟩
end Go.Proofs.Ytpaiioipoibahaa
