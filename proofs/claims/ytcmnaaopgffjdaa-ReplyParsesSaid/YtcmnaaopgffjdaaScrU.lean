/- What an argument of these laws may be, in columns, and how a law about columns becomes one about calls; without conditions. -/
import Derived.Test.YtcmnaaopgffjdaaStrU
import Derived.Test.YtcmnaaopgffjdaaEngMd
import Derived.Test.YtcmnaaopgffjdaaRows
import Derived.ProofKit
import Derived.ChangeVars
import Derived.LaidLaws
import Derived.LaidHandle
import Derived.LaidMore
import Derived.OpenShut
import Derived.Lay
import Derived.Stop.Joined
import Derived.Lib.LaidTab
set_option linter.all false
set_option linter.deprecated false
set_option maxRecDepth 1000000
set_option maxHeartbeats 4000000
namespace Go.Proofs.Ytcmnaaopgffjdaa
open Go.ChangeShapes Go.WideShapes Go.ChangeAt Go.RowKit
open Go.Eng Go.Proofs.TabU
theorem Try.own : ownKnob Try.prog.godebug = none := by kernel_rfl
theorem Try.laidOut : laidOutB Try.prog = true := by kernel_rfl
def kS : List SK := [.str]
def kA : List SK := [.int .i64, .sl 1 fun c => kS.getD c .bool, .sl 1 fun c => kS.getD c .bool]
def ks22 : List SK := [.sl 3 fun c => kA.getD c .bool]
theorem sh22 : shapeL Try.prog 8 22 = some ks22 := by kernel_rfl
theorem memOne (o : AObj) : (⟨1, 1, upd (fun _ => .dead) 0 o⟩ : Mem) = memL 1 [o] := by
  unfold memL
  congr 1
  funext id
  cases id <;> rfl
theorem wfi64 (x : Int) (h : (Lit.int .i64 x).wf = true) : -9223372036854775808 ≤ x ∧ x ≤ 9223372036854775807 := by
  simp [Lit.wf, IntKind.min, IntKind.max, IntKind.signed, IntKind.bits] at h
  omega
theorem lines_fit {n : Nat} {cols : List Col} (h : B.FitN n kS cols) : ∃ l : List ByteArray, cols = [.cs l] ∧ okW l n := by
  obtain ⟨b0, cs, e0, g0, m0, hfs⟩ := h.cons
  obtain rfl := hfs.nil
  obtain ⟨l, rfl, hl⟩ := B.fit_str g0
  refine ⟨l, e0, m0, fun j => ?_⟩
  rcases Nat.lt_or_ge j l.length with h | h
  · rw [List.getD_eq_getElem?_getD, List.getElem?_eq_getElem h]
    exact hl _ (List.getElem_mem h)
  · rw [List.getD_eq_getElem?_getD, List.getElem?_eq_none h]
    exact Nat.zero_le _
/-- A law of a list of asks. -/
theorem asks_ok {S : Sp} (hS : ∀ N, SOk Try.prog N S) {f : FuncId} (hSf : S f = none) {W : World} {held : Bool} {sp : Nat → Bool} {v : Value} {Hh : Type} {enc : TypeId × Value → Hh} {dd : DataW Hh} {p : List MemPlace} (ht : DataW.Trod enc Try.prog W 0 sp held 22 v dd p)
    (hsz : (DataW.weightsEach Try.prog [22] [dd]).all (· ≤ reachBytes) = true) (hv : ∃ a b c, v = .slice a b c)
    (law : ∀ (nl : Bool) (n cap : Nat) (l0 : List Int) (g1 g2 : List (Bool × Nat × Nat)) (L M : Nat → List ByteArray), (∀ j, okW (L j) (List.getD g1 j (true, 0, 0)).2.1) → (∀ j, okW (M j) (List.getD g2 j (true, 0, 0)).2.1) → (∀ j, (-9223372036854775808 : Int) ≤ List.getD l0 j 0 ∧ List.getD l0 j 0 ≤ 9223372036854775807) →
      H (ev S 5 f [.sl 0 0 n (some cap)] (memL 1 [.ro nl n [.ci .i64 l0, .cl g1 (fun j => [.cs (L j)]), .cl g2 (fun j => [.cs (M j)])]])) (fun x => x.1 = .b true) (fun _ _ => False)) :
    Calls Try.prog f #[v] W fun e W' => e = .returned (.bool true) ∧ Below W.heap.size W W' := by
  refine B.law_calls tok (fok false) hmix (L := 1048576) (d := 5) (g := 8) (ks := ks22) sh22 (hS _) (hSf := hSf) ht hsz (arg := fun l => l.headD .top) ?_ ?_
  · obtain ⟨a, b, c, rfl⟩ := hv
    intro φ l h
    cases h with
    | cons h t => exact h
  · intro cols hfit
    obtain ⟨a0, cs, rfl, h0, k0, hfit⟩ := B.FitN.cons (n := 1) hfit
    obtain rfl := hfit.nil
    obtain ⟨nl, n, cap, sub, rfl, hnc, hcap, hnl, hfs⟩ := B.fit_sl1 h0 rfl k0
    obtain ⟨b0, cs, e0, g0, m0, hfs⟩ := hfs.cons
    obtain ⟨b1, cs1, e1, q1, m1, hfs⟩ := hfs.cons
    obtain ⟨b2, cs2, e2, q2, m2, hfs⟩ := hfs.cons
    obtain rfl := hfs.nil
    subst e1 e2
    obtain ⟨l0, rfl, y0⟩ := B.fit_int g0
    obtain ⟨g1, u1, rfl, w1⟩ := B.fit_sl (ks := kS) q1 rfl
    obtain ⟨g2, u2, rfl, w2⟩ := B.fit_sl (ks := kS) q2 rfl
    obtain ⟨L, rfl, hL1⟩ := B.skolem (F := fun l : List ByteArray => [Col.cs l]) (P := fun j l => okW l (g1.getD j hd0).2.1) (sub := u1) fun j => lines_fit (w1 j).2.2.2
    obtain ⟨M, rfl, hM1⟩ := B.skolem (F := fun l : List ByteArray => [Col.cs l]) (P := fun j l => okW l (g2.getD j hd0).2.1) (sub := u2) fun j => lines_fit (w2 j).2.2.2
    have hM : argMem [.cl [(nl, n, cap)] sub] = memL 1 [.ro nl n [.ci .i64 l0, .cl g1 (fun j => [.cs (L j)]), .cl g2 (fun j => [.cs (M j)])]] := by
      rw [← e0, ← memOne]
      rfl
    rw [hM]
    refine law nl n cap l0 g1 g2 L M hL1 hM1 fun j => ?_
    rcases Nat.lt_or_ge j l0.length with h | h
    · rw [List.getD_eq_getElem?_getD, List.getElem?_eq_getElem h]
      exact wfi64 _ (y0 _ (List.getElem_mem h))
    · rw [List.getD_eq_getElem?_getD, List.getElem?_eq_none h]
      exact ⟨by decide, by decide⟩
end Go.Proofs.Ytcmnaaopgffjdaa
