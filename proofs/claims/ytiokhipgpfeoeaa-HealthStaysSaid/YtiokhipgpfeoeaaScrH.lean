/- What an argument of these laws may be, in columns, and how a law about columns becomes one about calls; without conditions. -/
import Derived.Test.YtiokhipgpfeoeaaSetH
import Derived.Test.YtiokhipgpfeoeaaEngMc
import Derived.Test.YtiokhipgpfeoeaaRows
import Derived.ProofKit
set_option linter.all false
set_option linter.deprecated false
set_option maxRecDepth 1000000
set_option maxHeartbeats 4000000
namespace Go.Proofs.Ytiokhipgpfeoeaa
open Go.ChangeShapes Go.WideShapes Go.ChangeAt Go.RowKit
open Go.Eng Go.Proofs.TabH

theorem Try.own : ownKnob Try.prog.godebug = none := by kernel_rfl
theorem Try.laidOut : laidOutB Try.prog = true := by kernel_rfl

def kNote : List SK := [.int .u64, .int .u64]
def kFloor : List SK := [.int .u64]
def ks26 : List SK := [.int .u64, .int .i64, .sl 2 fun c => kNote.getD c .bool, .sl 1 fun c => kFloor.getD c .bool]
theorem sh26 : shapeL Try.prog 8 26 = some ks26 := by kernel_rfl
def kAct : List SK := [.int .i64, .int .i64, .int .i64, .int .i64, .bool, .int .u64]
def ks57 : List SK := [.int .i64, .int .i64, .int .i64, .flt .f64, .int .i64, .int .u64, .sl 6 fun c => kAct.getD c .bool]
theorem sh57 : shapeL Try.prog 8 57 = some ks57 := by kernel_rfl
theorem memOne (o : AObj) : (⟨1, 1, upd (fun _ => .dead) 0 o⟩ : Mem) = memL 1 [o] := by
  unfold memL
  congr 1
  funext id
  cases id <;> rfl
theorem memTwo (o o2 : AObj) : (⟨2, 2, upd (upd (fun _ => .dead) 0 o) 1 o2⟩ : Mem) = memL 2 [o, o2] := by
  unfold memL
  congr 1
  funext id
  match id with
  | 0 => rfl
  | 1 => rfl
  | _ + 2 => rfl
theorem wf64 (x : Int) (h : (Lit.int .i64 x).wf = true) : -9223372036854775808 ≤ x ∧ x < 9223372036854775808 := by
  simp [Lit.wf, IntKind.min, IntKind.max, IntKind.signed, IntKind.bits] at h
  omega
theorem wfu64 (x : Int) (h : (Lit.int .u64 x).wf = true) : 0 ≤ x ∧ x < 18446744073709551616 := by
  simp [Lit.wf, IntKind.min, IntKind.max, IntKind.signed, IntKind.bits] at h
  omega
theorem wff64 (x : Nat) (h : (Lit.float .f64 x).wf = true) : x < 18446744073709551616 := by
  simp [Lit.wf] at h
  omega
theorem fit_flt1 {k : FloatKind} {c : Col} (h : ColFact (.flt k) c) (h1 : c.len = 1) : ∃ x, c = .cf k [x] ∧ (Lit.float k x).wf = true := by
  obtain ⟨l, rfl, hl⟩ := fit_flt h
  match l, h1 with
  | [x], _ => exact ⟨x, rfl, hl x (by simp)⟩
/-- What is known of a column of words. -/
def Wds (l : List Int) : Prop := ∀ x ∈ l, 0 ≤ x ∧ x < 18446744073709551616
def Ints (l : List Int) : Prop := ∀ x ∈ l, -9223372036854775808 ≤ x ∧ x < 9223372036854775808
theorem script7_ok {S : Sp} (hS : ∀ N, SOk Try.prog N S) {f d : Nat} {z : Bool} (hSf : S f = none) {W : World} {held : Bool} {sp : Nat → Bool} {v : Value} {Hh : Type} {enc : TypeId × Value → Hh} {dd : DataW Hh} {p : List MemPlace} (ht : DataW.Trod enc Try.prog W 0 sp held 26 v dd p) (hv : ∃ a, v = .agg a)
    (law : ∀ (sc cnt : Int) (nl nl2 : Bool) (n cap n2 cap2 : Nat) (l0 l1 fl : List Int), l0.length = n → l1.length = n → fl.length = n2 → n ≤ maxLen → n2 ≤ maxLen → (0 ≤ sc ∧ sc < 18446744073709551616) → (-9223372036854775808 ≤ cnt ∧ cnt < 9223372036854775808) → Wds l0 → Wds l1 → Wds fl →
      H (evFun Try.prog (ttOf tts) S (fns z).get 1048576 d f [.agg [.i .u64 sc, iv cnt, .sl 0 0 n (some cap), .sl 1 0 n2 (some cap2)]] (memL 2 [.ro nl n [.ci .u64 l0, .ci .u64 l1], .ro nl2 n2 [.ci .u64 fl]])) (fun x => x.1 = .b true) (fun _ _ => False)) :
    Calls Try.prog f #[v] W fun e W' => e = .returned (.bool true) ∧ Below W.heap.size W W' := by
  refine law_calls tok (fok z) hmix (L := 1048576) (d := d) (g := 8) (ks := ks26) sh26 (hS _) (hSf := hSf) ht (arg := fun l => .agg l) ?_ ?_
  · obtain ⟨a, rfl⟩ := hv
    intro φ l h
    exact .agg l a h
  · intro cols hfit
    obtain ⟨a0, cs, rfl, h0, k0, hfit⟩ := FitN.cons (n := 1) hfit
    obtain ⟨a1, cs, rfl, h1, k1, hfit⟩ := hfit.cons
    obtain ⟨a2, cs, rfl, h2, k2, hfit⟩ := hfit.cons
    obtain ⟨a3, cs, rfl, h3, k3, hfit⟩ := hfit.cons
    obtain rfl := hfit.nil
    obtain ⟨sc, rfl, w0⟩ := fit_int1 h0 k0
    obtain ⟨cnt, rfl, w1⟩ := fit_int1 h1 k1
    obtain ⟨nl, n, cap, sub, rfl, hnc, hcap, hnl, hfs⟩ := fit_sl1 h2 rfl k2
    obtain ⟨nl2, n2, cap2, sub2, rfl, hnc2, hcap2, hnl2, hfs2⟩ := fit_sl1 h3 rfl k3
    obtain ⟨b0, cs, e0, g0, m0, hfs⟩ := hfs.cons
    obtain ⟨b1, cs, rfl, g1, m1, hfs⟩ := hfs.cons
    obtain rfl := hfs.nil
    obtain ⟨c0, cs, e1, g2, m2, hfs2⟩ := hfs2.cons
    obtain rfl := hfs2.nil
    obtain ⟨l0, rfl, y0⟩ := fit_int g0
    obtain ⟨l1, rfl, y1⟩ := fit_int g1
    obtain ⟨fl, rfl, y2⟩ := fit_int g2
    have hM : argMem [.ci .u64 [sc], .ci .i64 [cnt], .cl [(nl, n, cap)] sub, .cl [(nl2, n2, cap2)] sub2] = memL 2 [.ro nl n [.ci .u64 l0, .ci .u64 l1], .ro nl2 n2 [.ci .u64 fl]] := by
      rw [← e0, ← e1, ← memTwo]
      rfl
    rw [hM]
    exact law sc cnt nl nl2 n cap n2 cap2 l0 l1 fl m0 m1 m2 (by omega) (by omega) (wfu64 _ w0) (wf64 _ w1) (fun x hx => wfu64 x (y0 x hx)) (fun x hx => wfu64 x (y1 x hx)) (fun x hx => wfu64 x (y2 x hx))
theorem script10_ok {S : Sp} (hS : ∀ N, SOk Try.prog N S) {f d : Nat} {z : Bool} (hSf : S f = none) {W : World} {held : Bool} {sp : Nat → Bool} {v : Value} {Hh : Type} {enc : TypeId × Value → Hh} {dd : DataW Hh} {p : List MemPlace} (ht : DataW.Trod enc Try.prog W 0 sp held 57 v dd p) (hv : ∃ a, v = .agg a)
    (law : ∀ (b0 b1 b2 : Int) (s : Nat) (c sc : Int) (nl : Bool) (n cap : Nat) (l0 l1 l2 l3 l5 : List Int) (l4 : List Bool), l0.length = n → l1.length = n → l2.length = n → l3.length = n → l4.length = n → l5.length = n → n ≤ maxLen → Ints [b0, b1, b2, c] → s < 18446744073709551616 → (0 ≤ sc ∧ sc < 18446744073709551616) → Ints l0 → Ints l1 → Ints l2 → Ints l3 → Wds l5 →
      H (evFun Try.prog (ttOf tts) S (fns z).get 1048576 d f [.agg [iv b0, iv b1, iv b2, fv s, iv c, .i .u64 sc, .sl 0 0 n (some cap)]] (memL 1 [.ro nl n [.ci .i64 l0, .ci .i64 l1, .ci .i64 l2, .ci .i64 l3, .cb l4, .ci .u64 l5]])) (fun x => x.1 = .b true) (fun _ _ => False)) :
    Calls Try.prog f #[v] W fun e W' => e = .returned (.bool true) ∧ Below W.heap.size W W' := by
  refine law_calls tok (fok z) hmix (L := 1048576) (d := d) (g := 8) (ks := ks57) sh57 (hS _) (hSf := hSf) ht (arg := fun l => .agg l) ?_ ?_
  · obtain ⟨a, rfl⟩ := hv
    intro φ l h
    exact .agg l a h
  · intro cols hfit
    obtain ⟨a0, cs, rfl, h0, k0, hfit⟩ := FitN.cons (n := 1) hfit
    obtain ⟨a1, cs, rfl, h1, k1, hfit⟩ := hfit.cons
    obtain ⟨a2, cs, rfl, h2, k2, hfit⟩ := hfit.cons
    obtain ⟨a3, cs, rfl, h3, k3, hfit⟩ := hfit.cons
    obtain ⟨a4, cs, rfl, h4, k4, hfit⟩ := hfit.cons
    obtain ⟨a5, cs, rfl, h5, k5, hfit⟩ := hfit.cons
    obtain ⟨a6, cs, rfl, h6, k6, hfit⟩ := hfit.cons
    obtain rfl := hfit.nil
    obtain ⟨x0, rfl, w0⟩ := fit_int1 h0 k0
    obtain ⟨x1, rfl, w1⟩ := fit_int1 h1 k1
    obtain ⟨x2, rfl, w2⟩ := fit_int1 h2 k2
    obtain ⟨s, rfl, w3⟩ := fit_flt1 h3 k3
    obtain ⟨c, rfl, w4⟩ := fit_int1 h4 k4
    obtain ⟨sc, rfl, w5⟩ := fit_int1 h5 k5
    obtain ⟨nl, n, cap, sub, rfl, hnc, hcap, hnl, hfs⟩ := fit_sl1 h6 rfl k6
    obtain ⟨b0, cs, e0, g0, m0, hfs⟩ := hfs.cons
    obtain ⟨b1, cs, rfl, g1, m1, hfs⟩ := hfs.cons
    obtain ⟨b2, cs, rfl, g2, m2, hfs⟩ := hfs.cons
    obtain ⟨b3, cs, rfl, g3, m3, hfs⟩ := hfs.cons
    obtain ⟨b4, cs, rfl, g4, m4, hfs⟩ := hfs.cons
    obtain ⟨b5, cs, rfl, g5, m5, hfs⟩ := hfs.cons
    obtain rfl := hfs.nil
    obtain ⟨l0, rfl, y0⟩ := fit_int g0
    obtain ⟨l1, rfl, y1⟩ := fit_int g1
    obtain ⟨l2, rfl, y2⟩ := fit_int g2
    obtain ⟨l3, rfl, y3⟩ := fit_int g3
    obtain ⟨l4, rfl⟩ := fit_bool g4
    obtain ⟨l5, rfl, y5⟩ := fit_int g5
    have hM : argMem [.ci .i64 [x0], .ci .i64 [x1], .ci .i64 [x2], .cf .f64 [s], .ci .i64 [c], .ci .u64 [sc], .cl [(nl, n, cap)] sub] = memL 1 [.ro nl n [.ci .i64 l0, .ci .i64 l1, .ci .i64 l2, .ci .i64 l3, .cb l4, .ci .u64 l5]] := by
      rw [← e0, ← memOne]
      rfl
    rw [hM]
    refine law x0 x1 x2 s c sc nl n cap l0 l1 l2 l3 l5 l4 m0 m1 m2 m3 m4 m5 (by omega) ?_ (wff64 _ w3) (wfu64 _ w5) (fun x hx => wf64 x (y0 x hx)) (fun x hx => wf64 x (y1 x hx)) (fun x hx => wf64 x (y2 x hx)) (fun x hx => wf64 x (y3 x hx)) (fun x hx => wfu64 x (y5 x hx))
    intro x hx
    simp only [List.mem_cons, List.not_mem_nil, or_false] at hx
    rcases hx with rfl | rfl | rfl | rfl <;> exact wf64 _ (by assumption)
end Go.Proofs.Ytiokhipgpfeoeaa
