/- A law walked through by the evaluator, for all columns that its argument may have. -/
import Derived.Test.YthnabafmjhackaaDoorClsR
import Derived.Test.YthnabafmjhackaaDoorArgFR
import Derived.Test.YthnabafmjhackaaDoorLawR4
set_option linter.all false
set_option linter.deprecated false
set_option maxRecDepth 1000000
set_option maxHeartbeats 4000000
namespace Go.Proofs.TabR
open Go Go.Eng
section
variable {nl : Bool} {n cap : Nat} {l : List Int}
def I3 (nl : Bool) (n : Nat) (l : List Int) (m : Nat) (s : St3) : Prop := ∃ (i : Nat), i ≤ 15 + kkO n ∧ m = 15 + kkO n - i ∧ s = ([.sl 1 0 (15 + kkO n) none, iv i], 1, ob4 nl n l)
theorem ag3 {m i : Nat} (hmi : m = 15 + kkO n - i) (h : i < 15 + kkO n) {G : Stop → Prop} :
    OkL (fun s' => ∃ m', m' < m ∧ I3 nl n l m' s') G (.inl ([.sl 1 0 (15 + kkO n) none, iv (wr .i64 ((i : Int) + 1))], 1, ob4 nl n l)) := by
  have hk := kkO_le n
  have hlt : 15 + kkO n - (i + 1) < m := by omega
  exact ⟨_, hlt, i + 1, by omega, rfl, by rw [wrM (by omega)]⟩
theorem step3 (hx : ∀ j, List.getD (xsO l n) j 0 < 18446744073709551616) (m : Nat) (s : St3) (hi : I3 nl n l m s) :
    H (lawL Sd (fi3 false) 1 [1,1,0,1,0] 2 [.sl 0 0 n (some cap)] s) (OkS (fun s' => ∃ m', m' < m ∧ I3 nl n l m' s') (OkY (fun y : AV × Mem => y.1 = .b true) (fun _ => False))) (fun _ _ => False) := by
  obtain ⟨i, hi, hmi, rfl⟩ := hi
  refine lawL_Q ?_
  refine H.sd 1 (fun b => b) ((↑i : Int) < (↑(15 + kkO n) : Int)) (by kernel_rfl) (fun h1 => ?_) (fun h1 => ?_)
  ·
   refine H.kd 5 (fun b => b) ((↑i : Int) < (↑(15 + kkO n) : Int)) (by (first | assumption | omega | with_reducible exact hx _ | exact beq_self_eq_true _)) (by kernel_rfl) ?_
   refine H.kl 1 (fun b => b) (0 + Int.toNat (↑i : Int)) (15 + kkO n) (by (first | assumption | omega | with_reducible exact hx _ | exact beq_self_eq_true _)) (by kernel_rfl) ?_
   refine H.kd 1 (fun b => b) (List.getD (xsO l n) (0 + Int.toNat (↑i : Int)) 0 < 18446744073709551616) (by (first | assumption | omega | with_reducible exact hx _ | exact beq_self_eq_true _)) (by kernel_rfl) ?_
   refine H.kd 5 (fun b => b) ((↑i : Int) < (↑(15 + kkO n) : Int)) (by (first | assumption | omega | with_reducible exact hx _ | exact beq_self_eq_true _)) (by kernel_rfl) ?_
   refine H.kl 1 (fun b => b) (0 + Int.toNat (↑i : Int)) (15 + kkO n) (by (first | assumption | omega | with_reducible exact hx _ | exact beq_self_eq_true _)) (by kernel_rfl) ?_
   refine H.kd 3 (fun b => b) (List.getD (xsO l n) (0 + Int.toNat (↑i : Int)) 0 < 18446744073709551616) (by (first | assumption | omega | with_reducible exact hx _ | exact beq_self_eq_true _)) (by kernel_rfl) ?_
   refine H.ke 1 (fun b => (!b)) (clsO (List.getD (xsO l n) (0 + Int.toNat (↑i : Int)) 0)) (clsO (List.getD (xsO l n) (0 + Int.toNat (↑i : Int)) 0)) (by (first | assumption | omega | with_reducible exact hx _ | exact beq_self_eq_true _)) (by kernel_rfl) ?_
   refine H.lf (f := oc2) 1 (Sum.inl ([AV.sl 1 0 (15 + kkO n) none, AV.i IntKind.i64 (wr IntKind.i64 ((↑i : Int) + 1))], 1, [AObj.ro nl n [Col.ci IntKind.u64 l], AObj.vec 26 (15 + kkO n) [Col.cf FloatKind.f64 (xsO l n)]])) (by kernel_rfl) ?_
   first | exact ag3 hmi (by omega) | exact rfl
  ·
   refine H.lf (f := oc2) 1 (Sum.inr (Sum.inl (AV.b true))) (by kernel_rfl) ?_
   first | exact ag3 hmi (by omega) | exact rfl
theorem law3 (hl : ∀ x ∈ l, 0 ≤ x ∧ x < 18446744073709551616) : H (ev Sd 5 3 [.sl 0 0 n (some cap)] (memL 1 [.ro nl n [.ci .u64 l]])) (fun x => x.1 = .b true) (fun _ _ => False) := by
  refine law1 (fi := fi3 false) (by kernel_rfl) (by kernel_rfl) (by kernel_rfl) rfl [0, 1, 0, 1, 1] 2 1 rfl (by kernel_rfl) (I3 nl n l) ?_ (step3 (xs_lt hl))
  refine lawE_Q ?_
  refine H.kd 1 (fun b => b) (n ≤ n) (Nat.le_refl _) (by kernel_rfl) ?_
  refine H.lf (f := oc) 1 (Sum.inr ([0, 1, 0, 1, 1], 2, [AV.sl 1 0 (15 + kkO n) none, AV.i IntKind.i64 0], 1, ob4 nl n l)) (by kernel_rfl) ?_
  have hk := kkO_le n
  have hlt : 15 + kkO n - 0 < 1048576 := by omega
  exact ⟨rfl, rfl, _, hlt, 0, by omega, rfl, rfl⟩
end
end Go.Proofs.TabR
