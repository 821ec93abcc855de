/- Lemmas about the evaluator of the code. -/
import Derived.Test.YtiokhipgpfeoeaaLawHb
set_option linter.all false
set_option linter.deprecated false
set_option maxRecDepth 1000000
set_option maxHeartbeats 4000000
namespace Go.Proofs.TabH
open Go Go.Eng
section
variable {b0 b1 b2 : Int} {s : Nat} {c sc : Int} {nl : Bool} {n cap : Nat} {l0 l1 l2 l3 l5 : List Int} {l4 : List Bool}
def Inv14 (b0 b1 b2 : Int) (s : Nat) (c sc : Int) (nl : Bool) (n cap : Nat) (l0 l1 l2 l3 l5 : List Int) (l4 : List Bool) (m : Nat) (st : St3) : Prop := ∃ (i : Nat) (x0 x1 x2 : Int) (y : Nat) (x4 : Int), y < 18446744073709551616 ∧ i ≤ 40 ∧ m = 40 - i ∧ st = ([.ptr 1 0 0, .ptr 2 0 0, iv i], 1, [.ro nl n [.ci .i64 l0, .ci .i64 l1, .ci .i64 l2, .ci .i64 l3, .cb l4, .ci .u64 l5], .own 57 7 [iv b0, iv b1, iv b2, fv s, iv c, .i .u64 sc, .sl 0 0 n (some cap)], .own 54 5 [iv x0, iv x1, iv x2, fv y, iv x4]])
theorem law14 (hsc : Int.toNat sc < 18446744073709551616) : H (ev S10 5 14 [.agg [iv b0, iv b1, iv b2, fv s, iv c, .i .u64 sc, .sl 0 0 n (some cap)]] (memL 1 [.ro nl n [.ci .i64 l0, .ci .i64 l1, .ci .i64 l2, .ci .i64 l3, .cb l4, .ci .u64 l5]])) (fun x => x.1 = .b true) F0 := by
  refine law1 (fi := fi14 false) (by kernel_rfl) (by kernel_rfl) (by kernel_rfl) rfl [0, 1, 0, 1, 1, 1, 1] 3 1 rfl (by kernel_rfl) (Inv14 b0 b1 b2 s c sc nl n cap l0 l1 l2 l3 l5 l4) ?_ ?_
  · refine lawE_Q ?_
    refine H.sd 3 (fun b => b) ((↑n : Int) > 300) (by kernel_rfl) (fun h1 => ?_) (fun h1 => ?_)
    ·
     refine H.lf (f := oc) 1 (Sum.inl (AV.b true)) (by kernel_rfl) ?_
     first | exact rfl | exact ⟨rfl, rfl, 40, by omega, 0, _, _, _, _, _, hsc, by omega, rfl, rfl⟩
    ·
     refine H.lf (f := oc) 19 (Sum.inr ([0, 1, 0, 1, 1, 1, 1], 3, [AV.ptr 1 0 0, AV.ptr 2 0 0, AV.i IntKind.i64 0], 1, [AObj.ro nl n [Col.ci IntKind.i64 l0, Col.ci IntKind.i64 l1, Col.ci IntKind.i64 l2, Col.ci IntKind.i64 l3, Col.cb l4, Col.ci IntKind.u64 l5], AObj.own 57 7 [AV.i IntKind.i64 b0, AV.i IntKind.i64 b1, AV.i IntKind.i64 b2, AV.v (Value.float FloatKind.f64 s), AV.i IntKind.i64 c, AV.i IntKind.u64 sc, AV.sl 0 0 n (some cap)], AObj.own 54 5 [AV.i IntKind.i64 b0, AV.i IntKind.i64 b1, AV.i IntKind.i64 b2, AV.v (Value.float FloatKind.f64 (Int.toNat sc)), AV.i IntKind.i64 c]])) (by kernel_rfl) ?_
     first | exact rfl | exact ⟨rfl, rfl, 40, by omega, 0, _, _, _, _, _, hsc, by omega, rfl, rfl⟩
  · rintro m _ ⟨i, x0, x1, x2, y, x4, hs, hi, hm, rfl⟩
    refine lawL_Q ?_
    have ag : ∀ {G : Stop → Prop} {r : BR}, i < 40 → r.2.2.2.1 < 18446744073709551616 → OkL (fun s' => ∃ m', m' < m ∧ Inv14 b0 b1 b2 s c sc nl n cap l0 l1 l2 l3 l5 l4 m' s') G (.inl ([.ptr 1 0 0, .ptr 2 0 0, iv (wr .i64 ((i : Int) + 1))], 1, [.ro nl n [.ci .i64 l0, .ci .i64 l1, .ci .i64 l2, .ci .i64 l3, .cb l4, .ci .u64 l5], .own 57 7 [iv b0, iv b1, iv b2, fv s, iv c, .i .u64 sc, .sl 0 0 n (some cap)], .own 54 5 [iv r.1, iv r.2.1, iv r.2.2.1, fv r.2.2.2.1, iv r.2.2.2.2]])) := fun h hr => by
      have hlt : 40 - (i + 1) < m := by omega
      exact ⟨_, hlt, i + 1, _, _, _, _, _, hr, by omega, rfl, by rw [wr64 (by omega) (by omega)]; rfl⟩
    refine H.sd 2 (fun b => (b == true)) ((↑i : Int) < (↑n : Int)) (by kernel_rfl) (fun h1 => ?_) (fun h1 => ?_)
    ·
     refine H.sd 3 (fun b => b) ((↑i : Int) < 40) (by kernel_rfl) (fun h2 => ?_) (fun h2 => ?_)
     ·
      refine H.kd 2 (fun b => b) (y < 18446744073709551616) (by (first | assumption | omega)) (by kernel_rfl) ?_
      refine H.sb 0 (fun b => (!b)) (brkO x0 x1 x2 y x4) (by kernel_rfl) (fun h3 => ?_) (fun h3 => ?_)
      ·
       refine H.kd 2 (fun b => b) (y < 18446744073709551616) (by (first | assumption | omega)) (by kernel_rfl) ?_
       refine H.kb 1 (fun b => ((!(b == true)) == false)) (b := (brkO x0 x1 x2 y x4)) (d := true) (by (first | assumption | omega)) (by kernel_rfl) ?_
       refine H.kd 17 (fun b => b) ((↑i : Int) < (↑n : Int)) (by (first | assumption | omega)) (by kernel_rfl) ?_
       refine H.kl 1 (fun b => b) (0 + Int.toNat (↑i : Int)) (n) (by (first | assumption | omega)) (by kernel_rfl) ?_
       refine H.kl 0 (fun b => b) (0 + Int.toNat (↑i : Int)) (n) (by (first | assumption | omega)) (by kernel_rfl) ?_
       refine H.kl 0 (fun b => b) (0 + Int.toNat (↑i : Int)) (n) (by (first | assumption | omega)) (by kernel_rfl) ?_
       refine H.kl 0 (fun b => b) (0 + Int.toNat (↑i : Int)) (n) (by (first | assumption | omega)) (by kernel_rfl) ?_
       refine H.kl 0 (fun b => b) (0 + Int.toNat (↑i : Int)) (n) (by (first | assumption | omega)) (by kernel_rfl) ?_
       refine H.kl 0 (fun b => b) (0 + Int.toNat (↑i : Int)) (n) (by (first | assumption | omega)) (by kernel_rfl) ?_
       refine H.kd 1 (fun b => b) (y < 18446744073709551616) (by (first | assumption | omega)) (by kernel_rfl) ?_
       refine H.lf (f := oc2) 33 (Sum.inl ([AV.ptr 1 0 0, AV.ptr 2 0 0, AV.i IntKind.i64 (wr IntKind.i64 ((↑i : Int) + 1))], 1, [AObj.ro nl n [Col.ci IntKind.i64 l0, Col.ci IntKind.i64 l1, Col.ci IntKind.i64 l2, Col.ci IntKind.i64 l3, Col.cb l4, Col.ci IntKind.u64 l5], AObj.own 57 7 [AV.i IntKind.i64 b0, AV.i IntKind.i64 b1, AV.i IntKind.i64 b2, AV.v (Value.float FloatKind.f64 s), AV.i IntKind.i64 c, AV.i IntKind.u64 sc, AV.sl 0 0 n (some cap)], AObj.own 54 5 [AV.i IntKind.i64 (Classical.indefiniteDescription (fun x => x = if h : y < 18446744073709551616 then Classical.choose (step43 x0 x1 x2 y x4 (List.getD l0 (0 + Int.toNat (↑i : Int)) 0) (List.getD l1 (0 + Int.toNat (↑i : Int)) 0) (List.getD l2 (0 + Int.toNat (↑i : Int)) 0) (List.getD l3 (0 + Int.toNat (↑i : Int)) 0) (List.getD l4 (0 + Int.toNat (↑i : Int)) false) (List.getD l5 (0 + Int.toNat (↑i : Int)) 0) h) else (0, 0, 0, 0, 0)) (opq_ex (if h : y < 18446744073709551616 then Classical.choose (step43 x0 x1 x2 y x4 (List.getD l0 (0 + Int.toNat (↑i : Int)) 0) (List.getD l1 (0 + Int.toNat (↑i : Int)) 0) (List.getD l2 (0 + Int.toNat (↑i : Int)) 0) (List.getD l3 (0 + Int.toNat (↑i : Int)) 0) (List.getD l4 (0 + Int.toNat (↑i : Int)) false) (List.getD l5 (0 + Int.toNat (↑i : Int)) 0) h) else (0, 0, 0, 0, 0)))).1.1, AV.i IntKind.i64 (r43 x0 x1 x2 y x4 (List.getD l0 (0 + Int.toNat (↑i : Int)) 0) (List.getD l1 (0 + Int.toNat (↑i : Int)) 0) (List.getD l2 (0 + Int.toNat (↑i : Int)) 0) (List.getD l3 (0 + Int.toNat (↑i : Int)) 0) (List.getD l4 (0 + Int.toNat (↑i : Int)) false) (List.getD l5 (0 + Int.toNat (↑i : Int)) 0)).2.1, AV.i IntKind.i64 (Prod.snd (r43 x0 x1 x2 y x4 (List.getD l0 (0 + Int.toNat (↑i : Int)) 0) (List.getD l1 (0 + Int.toNat (↑i : Int)) 0) (List.getD l2 (0 + Int.toNat (↑i : Int)) 0) (List.getD l3 (0 + Int.toNat (↑i : Int)) 0) (List.getD l4 (0 + Int.toNat (↑i : Int)) false) (List.getD l5 (0 + Int.toNat (↑i : Int)) 0))).2.1, AV.v (Value.float FloatKind.f64 (Prod.snd (Prod.snd (r43 x0 x1 x2 y x4 (List.getD l0 (0 + Int.toNat (↑i : Int)) 0) (List.getD l1 (0 + Int.toNat (↑i : Int)) 0) (List.getD l2 (0 + Int.toNat (↑i : Int)) 0) (List.getD l3 (0 + Int.toNat (↑i : Int)) 0) (List.getD l4 (0 + Int.toNat (↑i : Int)) false) (List.getD l5 (0 + Int.toNat (↑i : Int)) 0)))).2.1), AV.i IntKind.i64 (Prod.snd (Prod.snd (r43 x0 x1 x2 y x4 (List.getD l0 (0 + Int.toNat (↑i : Int)) 0) (List.getD l1 (0 + Int.toNat (↑i : Int)) 0) (List.getD l2 (0 + Int.toNat (↑i : Int)) 0) (List.getD l3 (0 + Int.toNat (↑i : Int)) 0) (List.getD l4 (0 + Int.toNat (↑i : Int)) false) (List.getD l5 (0 + Int.toNat (↑i : Int)) 0)))).2.2]])) (by kernel_rfl) ?_
       first | exact ag (by omega) (r43_lt hs) | exact rfl
      ·
       refine H.kd 2 (fun b => b) (y < 18446744073709551616) (by (first | assumption | omega)) (by kernel_rfl) ?_
       refine H.kb 1 (fun b => ((!(b == false)) == false)) (b := (brkO x0 x1 x2 y x4)) (d := false) (by (first | assumption | omega)) (by kernel_rfl) ?_
       refine H.kd 18 (fun b => b) ((↑i : Int) < (↑n : Int)) (by (first | assumption | omega)) (by kernel_rfl) ?_
       refine H.kl 1 (fun b => b) (0 + Int.toNat (↑i : Int)) (n) (by (first | assumption | omega)) (by kernel_rfl) ?_
       refine H.kl 0 (fun b => b) (0 + Int.toNat (↑i : Int)) (n) (by (first | assumption | omega)) (by kernel_rfl) ?_
       refine H.kl 0 (fun b => b) (0 + Int.toNat (↑i : Int)) (n) (by (first | assumption | omega)) (by kernel_rfl) ?_
       refine H.kl 0 (fun b => b) (0 + Int.toNat (↑i : Int)) (n) (by (first | assumption | omega)) (by kernel_rfl) ?_
       refine H.kl 0 (fun b => b) (0 + Int.toNat (↑i : Int)) (n) (by (first | assumption | omega)) (by kernel_rfl) ?_
       refine H.kl 0 (fun b => b) (0 + Int.toNat (↑i : Int)) (n) (by (first | assumption | omega)) (by kernel_rfl) ?_
       refine H.kd 1 (fun b => b) (y < 18446744073709551616) (by (first | assumption | omega)) (by kernel_rfl) ?_
       refine H.lf (f := oc2) 33 (Sum.inl ([AV.ptr 1 0 0, AV.ptr 2 0 0, AV.i IntKind.i64 (wr IntKind.i64 ((↑i : Int) + 1))], 1, [AObj.ro nl n [Col.ci IntKind.i64 l0, Col.ci IntKind.i64 l1, Col.ci IntKind.i64 l2, Col.ci IntKind.i64 l3, Col.cb l4, Col.ci IntKind.u64 l5], AObj.own 57 7 [AV.i IntKind.i64 b0, AV.i IntKind.i64 b1, AV.i IntKind.i64 b2, AV.v (Value.float FloatKind.f64 s), AV.i IntKind.i64 c, AV.i IntKind.u64 sc, AV.sl 0 0 n (some cap)], AObj.own 54 5 [AV.i IntKind.i64 (Classical.indefiniteDescription (fun x => x = if h : y < 18446744073709551616 then Classical.choose (step43 x0 x1 x2 y x4 (List.getD l0 (0 + Int.toNat (↑i : Int)) 0) (List.getD l1 (0 + Int.toNat (↑i : Int)) 0) (List.getD l2 (0 + Int.toNat (↑i : Int)) 0) (List.getD l3 (0 + Int.toNat (↑i : Int)) 0) (List.getD l4 (0 + Int.toNat (↑i : Int)) false) (List.getD l5 (0 + Int.toNat (↑i : Int)) 0) h) else (0, 0, 0, 0, 0)) (opq_ex (if h : y < 18446744073709551616 then Classical.choose (step43 x0 x1 x2 y x4 (List.getD l0 (0 + Int.toNat (↑i : Int)) 0) (List.getD l1 (0 + Int.toNat (↑i : Int)) 0) (List.getD l2 (0 + Int.toNat (↑i : Int)) 0) (List.getD l3 (0 + Int.toNat (↑i : Int)) 0) (List.getD l4 (0 + Int.toNat (↑i : Int)) false) (List.getD l5 (0 + Int.toNat (↑i : Int)) 0) h) else (0, 0, 0, 0, 0)))).1.1, AV.i IntKind.i64 (r43 x0 x1 x2 y x4 (List.getD l0 (0 + Int.toNat (↑i : Int)) 0) (List.getD l1 (0 + Int.toNat (↑i : Int)) 0) (List.getD l2 (0 + Int.toNat (↑i : Int)) 0) (List.getD l3 (0 + Int.toNat (↑i : Int)) 0) (List.getD l4 (0 + Int.toNat (↑i : Int)) false) (List.getD l5 (0 + Int.toNat (↑i : Int)) 0)).2.1, AV.i IntKind.i64 (Prod.snd (r43 x0 x1 x2 y x4 (List.getD l0 (0 + Int.toNat (↑i : Int)) 0) (List.getD l1 (0 + Int.toNat (↑i : Int)) 0) (List.getD l2 (0 + Int.toNat (↑i : Int)) 0) (List.getD l3 (0 + Int.toNat (↑i : Int)) 0) (List.getD l4 (0 + Int.toNat (↑i : Int)) false) (List.getD l5 (0 + Int.toNat (↑i : Int)) 0))).2.1, AV.v (Value.float FloatKind.f64 (Prod.snd (Prod.snd (r43 x0 x1 x2 y x4 (List.getD l0 (0 + Int.toNat (↑i : Int)) 0) (List.getD l1 (0 + Int.toNat (↑i : Int)) 0) (List.getD l2 (0 + Int.toNat (↑i : Int)) 0) (List.getD l3 (0 + Int.toNat (↑i : Int)) 0) (List.getD l4 (0 + Int.toNat (↑i : Int)) false) (List.getD l5 (0 + Int.toNat (↑i : Int)) 0)))).2.1), AV.i IntKind.i64 (Prod.snd (Prod.snd (r43 x0 x1 x2 y x4 (List.getD l0 (0 + Int.toNat (↑i : Int)) 0) (List.getD l1 (0 + Int.toNat (↑i : Int)) 0) (List.getD l2 (0 + Int.toNat (↑i : Int)) 0) (List.getD l3 (0 + Int.toNat (↑i : Int)) 0) (List.getD l4 (0 + Int.toNat (↑i : Int)) false) (List.getD l5 (0 + Int.toNat (↑i : Int)) 0)))).2.2]])) (by kernel_rfl) ?_
       first | exact ag (by omega) (r43_lt hs) | exact rfl
     ·
      refine H.lf (f := oc2) 82 (Sum.inr (Sum.inl (AV.b true))) (by kernel_rfl) ?_
      first | exact ag (by omega) (r43_lt hs) | exact rfl
    ·
     refine H.lf (f := oc2) 85 (Sum.inr (Sum.inl (AV.b true))) (by kernel_rfl) ?_
     first | exact ag (by omega) (r43_lt hs) | exact rfl
end
end Go.Proofs.TabH
