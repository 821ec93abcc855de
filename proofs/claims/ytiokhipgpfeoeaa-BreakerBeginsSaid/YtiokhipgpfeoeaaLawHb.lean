/- Lemmas about the evaluator of the code. -/
import Derived.Test.YtiokhipgpfeoeaaBrkH
import Derived.Test.YtiokhipgpfeoeaaArgEH
set_option linter.all false
set_option linter.deprecated false
set_option maxRecDepth 1000000
set_option maxHeartbeats 4000000
namespace Go.Proofs.TabH
open Go Go.Eng
def IsT (v : AV) : Prop := v = .b true
def IsE (a : An) : Prop := a = (.b true, [])
section
variable {b0 b1 b2 : Int} {s : Nat} {c sc : Int} {nl : Bool} {n cap : Nat} {l0 l1 l2 l3 l5 : List Int} {l4 : List Bool} {dd : Int}
def Inv39 (b0 b1 b2 : Int) (s : Nat) (c sc dd : Int) (nl : Bool) (n cap : Nat) (l0 l1 l2 l3 l5 : List Int) (l4 : List Bool) (m : Nat) (st : St3) : Prop := ∃ i : Nat, i ≤ 40 ∧ m = 40 - i ∧ st = ([iv dd, .ptr 1 0 0, .ptr 2 0 0, iv i], 1, [.ro nl n [.ci .i64 l0, .ci .i64 l1, .ci .i64 l2, .ci .i64 l3, .cb l4, .ci .u64 l5], .own 57 7 [iv b0, iv b1, iv b2, fv s, iv c, .i .u64 sc, .sl 0 0 n (some cap)], .own 54 5 [iv b0, iv b1, iv b2, fv (Int.toNat sc), iv c]])
theorem run39 (hs : Int.toNat sc < 18446744073709551616) : H (ev S10 5 39 [.agg [iv b0, iv b1, iv b2, fv s, iv c, .i .u64 sc, .sl 0 0 n (some cap)], iv dd] (memL 1 [.ro nl n [.ci .i64 l0, .ci .i64 l1, .ci .i64 l2, .ci .i64 l3, .cb l4, .ci .u64 l5]])) (fun x => IsE (resV 1 x)) F0 := by
  refine fn1 (fi := fi39 false) (by kernel_rfl) (by kernel_rfl) (by kernel_rfl) rfl [0, 1, 0, 1, 1, 1] 3 1 rfl (by kernel_rfl) (Inv39 b0 b1 b2 s c sc dd nl n cap l0 l1 l2 l3 l5 l4) ?_ ?_
  · refine pE_Q (k := 1) (Q := IsE) ?_
    refine H.lf (f := pE 1) 20 (Sum.inr ([0, 1, 0, 1, 1, 1], 3, [AV.i IntKind.i64 dd, AV.ptr 1 0 0, AV.ptr 2 0 0, AV.i IntKind.i64 0], 1, [AObj.ro nl n [Col.ci IntKind.i64 l0, Col.ci IntKind.i64 l1, Col.ci IntKind.i64 l2, Col.ci IntKind.i64 l3, Col.cb l4, Col.ci IntKind.u64 l5], AObj.own 57 7 [AV.i IntKind.i64 b0, AV.i IntKind.i64 b1, AV.i IntKind.i64 b2, AV.v (Value.float FloatKind.f64 s), AV.i IntKind.i64 c, AV.i IntKind.u64 sc, AV.sl 0 0 n (some cap)], AObj.own 54 5 [AV.i IntKind.i64 b0, AV.i IntKind.i64 b1, AV.i IntKind.i64 b2, AV.v (Value.float FloatKind.f64 (Int.toNat sc)), AV.i IntKind.i64 c]])) (by kernel_rfl) ?_
    exact ⟨rfl, rfl, 40, by omega, 0, by omega, rfl, rfl⟩
  · rintro m _ ⟨i, hi, hm, rfl⟩
    refine pL_Q (k := 1) (Q := IsE) ?_
    have ag : ∀ {G : Stop → Prop}, i < 40 → KL (fun s' => ∃ m', m' < m ∧ Inv39 b0 b1 b2 s c sc dd nl n cap l0 l1 l2 l3 l5 l4 m' s') IsE G (.inl ([iv dd, .ptr 1 0 0, .ptr 2 0 0, iv (wr .i64 ((i : Int) + 1))], 1, [.ro nl n [.ci .i64 l0, .ci .i64 l1, .ci .i64 l2, .ci .i64 l3, .cb l4, .ci .u64 l5], .own 57 7 [iv b0, iv b1, iv b2, fv s, iv c, .i .u64 sc, .sl 0 0 n (some cap)], .own 54 5 [iv b0, iv b1, iv b2, fv (Int.toNat sc), iv c]])) := fun h => by
      have hlt : 40 - (i + 1) < m := by omega
      exact ⟨_, hlt, i + 1, by omega, rfl, by rw [wr64 (by omega) (by omega)]; rfl⟩
    refine H.sd 2 (fun b => (b == true)) ((↑i : Int) < (↑n : Int)) (by kernel_rfl) (fun h1 => ?_) (fun h1 => ?_)
    ·
     refine H.sd 3 (fun b => b) ((↑i : Int) < 40) (by kernel_rfl) (fun h2 => ?_) (fun h2 => ?_)
     ·
      refine H.kd 3 (fun b => b) ((↑i : Int) < (↑n : Int)) (by (first | assumption | omega)) (by kernel_rfl) ?_
      refine H.kl 0 (fun b => b) (0 + Int.toNat (↑i : Int)) (n) (by (first | assumption | omega)) (by kernel_rfl) ?_
      refine H.kl 0 (fun b => b) (0 + Int.toNat (↑i : Int)) (n) (by (first | assumption | omega)) (by kernel_rfl) ?_
      refine H.kl 0 (fun b => b) (0 + Int.toNat (↑i : Int)) (n) (by (first | assumption | omega)) (by kernel_rfl) ?_
      refine H.kl 0 (fun b => b) (0 + Int.toNat (↑i : Int)) (n) (by (first | assumption | omega)) (by kernel_rfl) ?_
      refine H.kl 0 (fun b => b) (0 + Int.toNat (↑i : Int)) (n) (by (first | assumption | omega)) (by kernel_rfl) ?_
      refine H.kl 0 (fun b => b) (0 + Int.toNat (↑i : Int)) (n) (by (first | assumption | omega)) (by kernel_rfl) ?_
      refine H.kd 18 (fun b => b) (Int.toNat sc < 18446744073709551616) (by (first | assumption | omega)) (by kernel_rfl) ?_
      refine H.lf (f := pL 1) 15 (Sum.inl ([AV.i IntKind.i64 dd, AV.ptr 1 0 0, AV.ptr 2 0 0, AV.i IntKind.i64 (wr IntKind.i64 ((↑i : Int) + 1))], 1, [AObj.ro nl n [Col.ci IntKind.i64 l0, Col.ci IntKind.i64 l1, Col.ci IntKind.i64 l2, Col.ci IntKind.i64 l3, Col.cb l4, Col.ci IntKind.u64 l5], AObj.own 57 7 [AV.i IntKind.i64 b0, AV.i IntKind.i64 b1, AV.i IntKind.i64 b2, AV.v (Value.float FloatKind.f64 s), AV.i IntKind.i64 c, AV.i IntKind.u64 sc, AV.sl 0 0 n (some cap)], AObj.own 54 5 [AV.i IntKind.i64 b0, AV.i IntKind.i64 b1, AV.i IntKind.i64 b2, AV.v (Value.float FloatKind.f64 (Int.toNat sc)), AV.i IntKind.i64 c]])) (by kernel_rfl) ?_
      first | exact ag (by omega) | exact rfl
     ·
      refine H.lf (f := pL 1) 1 (Sum.inr (Sum.inl (AV.b true, []))) (by kernel_rfl) ?_
      first | exact ag (by omega) | exact rfl
    ·
     refine H.lf (f := pL 1) 4 (Sum.inr (Sum.inl (AV.b true, []))) (by kernel_rfl) ?_
     first | exact ag (by omega) | exact rfl
end
noncomputable def g39 : List AV → List AObj → T (AV × List AObj)
  | [.agg [.i .i64 b0, .i .i64 b1, .i .i64 b2, .v (.float .f64 s), .i .i64 c, .i .u64 sc, .sl 0 0 n (some cap)], .i .i64 dd], [.ro nl n' [.ci .i64 l0, .ci .i64 l1, .ci .i64 l2, .ci .i64 l3, .cb l4, .ci .u64 l5]] => .br (decide (n' = n)) (.br (decide (Int.toNat sc < 18446744073709551616)) (.ret (.b true, [])) .fail) .fail
  | _, _ => .fail
theorem c39 {N : Nat} {R : Sp} (hR : SOk Try.prog N R) : SOk Try.prog N (fun f => bif2 (Nat.beq f 39) (some (viewS g39)) (R f)) := by
  refine sOk_view tok (fok false) hmix (L := 1048576) (d := 5) (s10 N) hR fun args objs Q h => ?_
  unfold g39 at h
  split at h
  · obtain ⟨e, h1⟩ := br_ok h
    obtain ⟨hs, h2⟩ := br_ok h1
    clear h h1
    obtain rfl := of_decide_eq_true e
    refine (run39 (of_decide_eq_true hs)).mono fun y hy => ?_
    have hy : resV 1 y = _ := hy
    show Q (resV 1 y)
    rw [hy]; exact h2
  · exact h.elim
noncomputable def S11 : Sp := fun n => bif2 (Nat.beq n 39) (some (viewS g39)) (S10 n)
theorem s11 (N : Nat) : SOk Try.prog N S11 := c39 (s10 N)
section
variable {b0 b1 b2 : Int} {s : Nat} {c sc : Int} {nl : Bool} {n cap : Nat} {l0 l1 l2 l3 l5 : List Int} {l4 : List Bool}
theorem law10 (hs : Int.toNat sc < 18446744073709551616) : H (ev S11 5 10 [.agg [iv b0, iv b1, iv b2, fv s, iv c, .i .u64 sc, .sl 0 0 n (some cap)]] (memL 1 [.ro nl n [.ci .i64 l0, .ci .i64 l1, .ci .i64 l2, .ci .i64 l3, .cb l4, .ci .u64 l5]])) (fun x => IsT (Prod.fst x)) F0 := by
  refine H.kd 3 (fun b => b) (n = n) (by (first | assumption | omega)) (by kernel_rfl) ?_
  refine H.kd 0 (fun b => b) (Int.toNat sc < 18446744073709551616) (by (first | assumption | omega)) (by kernel_rfl) ?_
  refine H.lf (f := Prod.fst) 2 (AV.b true) (by kernel_rfl) ?_
  exact rfl
theorem law11 (hs : Int.toNat sc < 18446744073709551616) : H (ev S11 5 11 [.agg [iv b0, iv b1, iv b2, fv s, iv c, .i .u64 sc, .sl 0 0 n (some cap)]] (memL 1 [.ro nl n [.ci .i64 l0, .ci .i64 l1, .ci .i64 l2, .ci .i64 l3, .cb l4, .ci .u64 l5]])) (fun x => IsT (Prod.fst x)) F0 := by
  refine H.kd 3 (fun b => b) (n = n) (by (first | assumption | omega)) (by kernel_rfl) ?_
  refine H.kd 0 (fun b => b) (Int.toNat sc < 18446744073709551616) (by (first | assumption | omega)) (by kernel_rfl) ?_
  refine H.lf (f := Prod.fst) 2 (AV.b true) (by kernel_rfl) ?_
  exact rfl
theorem law12 (hs : Int.toNat sc < 18446744073709551616) : H (ev S11 5 12 [.agg [iv b0, iv b1, iv b2, fv s, iv c, .i .u64 sc, .sl 0 0 n (some cap)]] (memL 1 [.ro nl n [.ci .i64 l0, .ci .i64 l1, .ci .i64 l2, .ci .i64 l3, .cb l4, .ci .u64 l5]])) (fun x => IsT (Prod.fst x)) F0 := by
  refine H.kd 3 (fun b => b) (n = n) (by (first | assumption | omega)) (by kernel_rfl) ?_
  refine H.kd 0 (fun b => b) (Int.toNat sc < 18446744073709551616) (by (first | assumption | omega)) (by kernel_rfl) ?_
  refine H.lf (f := Prod.fst) 2 (AV.b true) (by kernel_rfl) ?_
  exact rfl
end
end Go.Proofs.TabH
