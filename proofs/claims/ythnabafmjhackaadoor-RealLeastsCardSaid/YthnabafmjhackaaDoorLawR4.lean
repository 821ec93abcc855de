/- A law walked through by the evaluator, for all columns that its argument may have. -/
import Derived.Test.YthnabafmjhackaaDoorSetR
import Derived.Test.YthnabafmjhackaaDoorArgFR
set_option linter.all false
set_option linter.deprecated false
set_option maxRecDepth 1000000
set_option maxHeartbeats 4000000
namespace Go.Proofs.TabR
open Go Go.Eng
theorem wrM {i : Nat} (h : i ≤ 1000000) : wr .i64 ((i : Int) + 1) = ((i + 1 : Nat) : Int) := by rw [wr64 (by omega) (by omega)]; rfl
section
variable {nl : Bool} {n cap : Nat} {l : List Int}
noncomputable abbrev ob4 (nl : Bool) (n : Nat) (l : List Int) : List AObj := [.ro nl n [.ci .u64 l], .vec 26 (15 + kkO n) [.cf .f64 (xsO l n)]]
def Inv4 (nl : Bool) (n : Nat) (l : List Int) (m : Nat) (s : St3) : Prop := ∃ (i : Nat) (a : AV), i ≤ 15 + kkO n ∧ m = 15 + kkO n - i ∧ s = ([.sl 1 0 (15 + kkO n) none, iv i, a], 1, ob4 nl n l)
def Inn4 (nl : Bool) (n : Nat) (l : List Int) (m m2 : Nat) (s : St3) : Prop := ∃ (i j : Nat), i < 15 + kkO n ∧ m = 15 + kkO n - i ∧ j ≤ 15 + kkO n ∧ m2 = 15 + kkO n - j ∧ s = ([.sl 1 0 (15 + kkO n) none, iv i, iv j], 1, ob4 nl n l)
theorem in4 {m i : Nat} (hmi : m = 15 + kkO n - i) (h : i < 15 + kkO n) {I : St3 → Prop} :
    OkO I (fun _ => False) (fun t => t.1 = [0, 1, 0, 0, 1] ∧ t.2.1 = 2 ∧ ∃ m2, m2 < 1048576 ∧ Inn4 nl n l m m2 t.2.2)
      (.inr ([0, 1, 0, 0, 1], 2, [.sl 1 0 (15 + kkO n) none, iv i, iv 0], 1, ob4 nl n l)) := by
  have hk := kkO_le n
  have hlt : 15 + kkO n - 0 < 1048576 := by omega
  exact ⟨rfl, rfl, _, hlt, i, 0, h, hmi, by omega, rfl, rfl⟩
theorem ag4 {m i j m2 : Nat} {G' G2 : Stop → Prop} {I : St3 → Prop} (hi : i < 15 + kkO n ∧ m = 15 + kkO n - i) (hj : m2 = 15 + kkO n - j) (h : j < 15 + kkO n) :
    OkI (fun s' => ∃ m', m' < m2 ∧ Inn4 nl n l m m' s') I G' G2 (.inl ([.sl 1 0 (15 + kkO n) none, iv i, iv (wr .i64 ((j : Int) + 1))], 1, ob4 nl n l)) := by
  have hk := kkO_le n
  have hlt : 15 + kkO n - (j + 1) < m2 := by omega
  exact ⟨_, hlt, i, j + 1, hi.1, hi.2, by omega, rfl, by rw [wrM (by omega)]⟩
theorem out4 {m i : Nat} {a : AV} {G' G2 : Stop → Prop} {I2 : St3 → Prop} (hi : i < 15 + kkO n ∧ m = 15 + kkO n - i) (hmi : m = 15 + kkO n - i) :
    OkI I2 (fun s' => ∃ m', m' < m ∧ Inv4 nl n l m' s') G' G2 (.inr (.inl (.inl ([.sl 1 0 (15 + kkO n) none, iv (wr .i64 ((i : Int) + 1)), a], 1, ob4 nl n l)))) := by
  have hk := kkO_le n
  have hlt : 15 + kkO n - (i + 1) < m := by omega
  exact ⟨_, hlt, i + 1, _, by omega, rfl, by rw [wrM (by omega)]⟩
theorem stepO4 (m : Nat) (s : St3) (hi : Inv4 nl n l m s) :
    H (lawO Sa (fi4 false) 1 [1,1,0,1,0] 2 [.sl 0 0 n (some cap)] s) (OkY (OkS (fun s' => ∃ m', m' < m ∧ Inv4 nl n l m' s') (OkT (fun _ => False))) (fun t => t.1 = [0, 1, 0, 0, 1] ∧ t.2.1 = 2 ∧ ∃ m2, m2 < 1048576 ∧ Inn4 nl n l m m2 t.2.2)) (fun _ _ => False) := by
  obtain ⟨i, a, hi, hmi, rfl⟩ := hi
  refine lawO_Q ?_
  refine H.sd 1 (fun b => b) ((↑i : Int) < (↑(15 + kkO n) : Int)) (by kernel_rfl) (fun h1 => ?_) (fun h1 => ?_)
  ·
   refine H.lf (f := ocO) 0 (Sum.inr ([0, 1, 0, 0, 1], 2, [AV.sl 1 0 (15 + kkO n) none, AV.i IntKind.i64 (↑i : Int), AV.i IntKind.i64 0], 1, [AObj.ro nl n [Col.ci IntKind.u64 l], AObj.vec 26 (15 + kkO n) [Col.cf FloatKind.f64 (xsO l n)]])) (by kernel_rfl) ?_
   first | exact in4 hmi (by omega) | exact rfl
  ·
   refine H.lf (f := ocO) 1 (Sum.inl (Sum.inr (Sum.inl (AV.b true)))) (by kernel_rfl) ?_
   first | exact in4 hmi (by omega) | exact rfl
theorem stepI4 (hx : ∀ j, List.getD (xsO l n) j 0 < 18446744073709551616) (m m2 : Nat) (s : St3) (hi : Inn4 nl n l m m2 s) :
    H (lawI Sa (fi4 false) 1 [1,1,0,1,0] 2 [1,0,0,1,0] 2 [.sl 0 0 n (some cap)] s) (OkS (fun s' => ∃ m', m' < m2 ∧ Inn4 nl n l m m' s') (OkY (OkS (fun s' => ∃ m', m' < m ∧ Inv4 nl n l m' s') (OkT (fun _ => False))) (fun _ => False))) (fun _ _ => False) := by
  obtain ⟨i, j, h0, hmi, hj0, hj, rfl⟩ := hi
  have hi := And.intro h0 hmi
  refine lawI_Q ?_
  refine H.sd 1 (fun b => b) ((↑j : Int) < (↑(15 + kkO n) : Int)) (by kernel_rfl) (fun h1 => ?_) (fun h1 => ?_)
  ·
   refine H.kd 5 (fun b => b) ((↑i : Int) < (↑(15 + kkO n) : Int)) (by (first | assumption | omega | with_reducible exact hx _ | exact beq_self_eq_true _)) (by kernel_rfl) ?_
   refine H.kl 1 (fun b => b) (0 + Int.toNat (↑i : Int)) (15 + kkO n) (by (first | assumption | omega | with_reducible exact hx _ | exact beq_self_eq_true _)) (by kernel_rfl) ?_
   refine H.kd 5 (fun b => b) ((↑j : Int) < (↑(15 + kkO n) : Int)) (by (first | assumption | omega | with_reducible exact hx _ | exact beq_self_eq_true _)) (by kernel_rfl) ?_
   refine H.kl 1 (fun b => b) (0 + Int.toNat (↑j : Int)) (15 + kkO n) (by (first | assumption | omega | with_reducible exact hx _ | exact beq_self_eq_true _)) (by kernel_rfl) ?_
   refine H.kd 3 (fun b => b) (List.getD (xsO l n) (0 + Int.toNat (↑i : Int)) 0 < 18446744073709551616) (by (first | assumption | omega | with_reducible exact hx _ | exact beq_self_eq_true _)) (by kernel_rfl) ?_
   refine H.kd 0 (fun b => b) (List.getD (xsO l n) (0 + Int.toNat (↑j : Int)) 0 < 18446744073709551616) (by (first | assumption | omega | with_reducible exact hx _ | exact beq_self_eq_true _)) (by kernel_rfl) ?_
   refine H.kd 6 (fun b => b) ((↑i : Int) < (↑(15 + kkO n) : Int)) (by (first | assumption | omega | with_reducible exact hx _ | exact beq_self_eq_true _)) (by kernel_rfl) ?_
   refine H.kl 1 (fun b => b) (0 + Int.toNat (↑i : Int)) (15 + kkO n) (by (first | assumption | omega | with_reducible exact hx _ | exact beq_self_eq_true _)) (by kernel_rfl) ?_
   refine H.kd 5 (fun b => b) ((↑j : Int) < (↑(15 + kkO n) : Int)) (by (first | assumption | omega | with_reducible exact hx _ | exact beq_self_eq_true _)) (by kernel_rfl) ?_
   refine H.kl 1 (fun b => b) (0 + Int.toNat (↑j : Int)) (15 + kkO n) (by (first | assumption | omega | with_reducible exact hx _ | exact beq_self_eq_true _)) (by kernel_rfl) ?_
   refine H.kd 1 (fun b => b) (List.getD (xsO l n) (0 + Int.toNat (↑i : Int)) 0 < 18446744073709551616) (by (first | assumption | omega | with_reducible exact hx _ | exact beq_self_eq_true _)) (by kernel_rfl) ?_
   refine H.kd 0 (fun b => b) (List.getD (xsO l n) (0 + Int.toNat (↑j : Int)) 0 < 18446744073709551616) (by (first | assumption | omega | with_reducible exact hx _ | exact beq_self_eq_true _)) (by kernel_rfl) ?_
   refine H.ke 4 (fun b => ((!b) == false)) (cmpO (List.getD (xsO l n) (0 + Int.toNat (↑i : Int)) 0) (List.getD (xsO l n) (0 + Int.toNat (↑j : Int)) 0)) (cmpO (List.getD (xsO l n) (0 + Int.toNat (↑i : Int)) 0) (List.getD (xsO l n) (0 + Int.toNat (↑j : Int)) 0)) (by (first | assumption | omega | with_reducible exact hx _ | exact beq_self_eq_true _)) (by kernel_rfl) ?_
   refine H.ke 1 (fun b => ((!b) == false)) (cmpO (List.getD (xsO l n) (0 + Int.toNat (↑i : Int)) 0) (List.getD (xsO l n) (0 + Int.toNat (↑j : Int)) 0)) (cmpO (List.getD (xsO l n) (0 + Int.toNat (↑i : Int)) 0) (List.getD (xsO l n) (0 + Int.toNat (↑j : Int)) 0)) (by (first | assumption | omega | with_reducible exact hx _ | exact beq_self_eq_true _)) (by kernel_rfl) ?_
   refine H.ke 1 (fun b => ((!b) == false)) (cmpO (List.getD (xsO l n) (0 + Int.toNat (↑i : Int)) 0) (List.getD (xsO l n) (0 + Int.toNat (↑j : Int)) 0)) (cmpO (List.getD (xsO l n) (0 + Int.toNat (↑i : Int)) 0) (List.getD (xsO l n) (0 + Int.toNat (↑j : Int)) 0)) (by (first | assumption | omega | with_reducible exact hx _ | exact beq_self_eq_true _)) (by kernel_rfl) ?_
   refine H.kd 2 (fun b => b) ((↑i : Int) < (↑(15 + kkO n) : Int)) (by (first | assumption | omega | with_reducible exact hx _ | exact beq_self_eq_true _)) (by kernel_rfl) ?_
   refine H.ke 1 (fun b => ((!b) == false)) (cmpO (List.getD (xsO l n) (0 + Int.toNat (↑i : Int)) 0) (List.getD (xsO l n) (0 + Int.toNat (↑j : Int)) 0)) (cmpO (List.getD (xsO l n) (0 + Int.toNat (↑i : Int)) 0) (List.getD (xsO l n) (0 + Int.toNat (↑j : Int)) 0)) (by (first | assumption | omega | with_reducible exact hx _ | exact beq_self_eq_true _)) (by kernel_rfl) ?_
   refine H.kl 0 (fun b => b) (0 + Int.toNat (↑i : Int)) (15 + kkO n) (by (first | assumption | omega | with_reducible exact hx _ | exact beq_self_eq_true _)) (by kernel_rfl) ?_
   refine H.ke 1 (fun b => ((!b) == false)) (cmpO (List.getD (xsO l n) (0 + Int.toNat (↑i : Int)) 0) (List.getD (xsO l n) (0 + Int.toNat (↑j : Int)) 0)) (cmpO (List.getD (xsO l n) (0 + Int.toNat (↑i : Int)) 0) (List.getD (xsO l n) (0 + Int.toNat (↑j : Int)) 0)) (by (first | assumption | omega | with_reducible exact hx _ | exact beq_self_eq_true _)) (by kernel_rfl) ?_
   refine H.ke 1 (fun b => ((!b) == false)) (cmpO (List.getD (xsO l n) (0 + Int.toNat (↑i : Int)) 0) (List.getD (xsO l n) (0 + Int.toNat (↑j : Int)) 0)) (cmpO (List.getD (xsO l n) (0 + Int.toNat (↑i : Int)) 0) (List.getD (xsO l n) (0 + Int.toNat (↑j : Int)) 0)) (by (first | assumption | omega | with_reducible exact hx _ | exact beq_self_eq_true _)) (by kernel_rfl) ?_
   refine H.ke 1 (fun b => ((!b) == false)) (cmpO (List.getD (xsO l n) (0 + Int.toNat (↑i : Int)) 0) (List.getD (xsO l n) (0 + Int.toNat (↑j : Int)) 0)) (cmpO (List.getD (xsO l n) (0 + Int.toNat (↑i : Int)) 0) (List.getD (xsO l n) (0 + Int.toNat (↑j : Int)) 0)) (by (first | assumption | omega | with_reducible exact hx _ | exact beq_self_eq_true _)) (by kernel_rfl) ?_
   refine H.kd 2 (fun b => b) ((↑j : Int) < (↑(15 + kkO n) : Int)) (by (first | assumption | omega | with_reducible exact hx _ | exact beq_self_eq_true _)) (by kernel_rfl) ?_
   refine H.ke 1 (fun b => ((!b) == false)) (cmpO (List.getD (xsO l n) (0 + Int.toNat (↑i : Int)) 0) (List.getD (xsO l n) (0 + Int.toNat (↑j : Int)) 0)) (cmpO (List.getD (xsO l n) (0 + Int.toNat (↑i : Int)) 0) (List.getD (xsO l n) (0 + Int.toNat (↑j : Int)) 0)) (by (first | assumption | omega | with_reducible exact hx _ | exact beq_self_eq_true _)) (by kernel_rfl) ?_
   refine H.kl 0 (fun b => b) (0 + Int.toNat (↑j : Int)) (15 + kkO n) (by (first | assumption | omega | with_reducible exact hx _ | exact beq_self_eq_true _)) (by kernel_rfl) ?_
   refine H.ke 1 (fun b => ((!b) == false)) (cmpO (List.getD (xsO l n) (0 + Int.toNat (↑i : Int)) 0) (List.getD (xsO l n) (0 + Int.toNat (↑j : Int)) 0)) (cmpO (List.getD (xsO l n) (0 + Int.toNat (↑i : Int)) 0) (List.getD (xsO l n) (0 + Int.toNat (↑j : Int)) 0)) (by (first | assumption | omega | with_reducible exact hx _ | exact beq_self_eq_true _)) (by kernel_rfl) ?_
   refine H.kd 0 (fun b => b) (List.getD (xsO l n) (0 + Int.toNat (↑i : Int)) 0 < 18446744073709551616) (by (first | assumption | omega | with_reducible exact hx _ | exact beq_self_eq_true _)) (by kernel_rfl) ?_
   refine H.kd 0 (fun b => b) (List.getD (xsO l n) (0 + Int.toNat (↑j : Int)) 0 < 18446744073709551616) (by (first | assumption | omega | with_reducible exact hx _ | exact beq_self_eq_true _)) (by kernel_rfl) ?_
   refine H.ke 1 (fun b => ((!b) == false)) (cmpO (List.getD (xsO l n) (0 + Int.toNat (↑i : Int)) 0) (List.getD (xsO l n) (0 + Int.toNat (↑j : Int)) 0)) (cmpO (List.getD (xsO l n) (0 + Int.toNat (↑i : Int)) 0) (List.getD (xsO l n) (0 + Int.toNat (↑j : Int)) 0)) (by (first | assumption | omega | with_reducible exact hx _ | exact beq_self_eq_true _)) (by kernel_rfl) ?_
   refine H.ke 1 (fun b => ((!b) == false)) (cmpO (List.getD (xsO l n) (0 + Int.toNat (↑i : Int)) 0) (List.getD (xsO l n) (0 + Int.toNat (↑j : Int)) 0)) (cmpO (List.getD (xsO l n) (0 + Int.toNat (↑i : Int)) 0) (List.getD (xsO l n) (0 + Int.toNat (↑j : Int)) 0)) (by (first | assumption | omega | with_reducible exact hx _ | exact beq_self_eq_true _)) (by kernel_rfl) ?_
   refine H.ke 4 (fun b => ((!b) == false)) (cmpO (List.getD (xsO l n) (0 + Int.toNat (↑i : Int)) 0) (List.getD (xsO l n) (0 + Int.toNat (↑j : Int)) 0)) (cmpO (List.getD (xsO l n) (0 + Int.toNat (↑i : Int)) 0) (List.getD (xsO l n) (0 + Int.toNat (↑j : Int)) 0)) (by (first | assumption | omega | with_reducible exact hx _ | exact beq_self_eq_true _)) (by kernel_rfl) ?_
   refine H.kb 1 (fun b => (!b)) (b := ((cmpO (List.getD (xsO l n) (0 + Int.toNat (↑i : Int)) 0) (List.getD (xsO l n) (0 + Int.toNat (↑j : Int)) 0) == 0) == (cmpO (List.getD (xsO l n) (0 + Int.toNat (↑i : Int)) 0) (List.getD (xsO l n) (0 + Int.toNat (↑j : Int)) 0) == 0))) (d := true) (by (first | assumption | omega | with_reducible exact hx _ | exact beq_self_eq_true _)) (by kernel_rfl) ?_
   refine H.lf (f := ocI) 1 (Sum.inl ([AV.sl 1 0 (15 + kkO n) none, AV.i IntKind.i64 (↑i : Int), AV.i IntKind.i64 (wr IntKind.i64 ((↑j : Int) + 1))], 1, [AObj.ro nl n [Col.ci IntKind.u64 l], AObj.vec 26 (15 + kkO n) [Col.cf FloatKind.f64 (xsO l n)]])) (by kernel_rfl) ?_
   first | exact ag4 hi hj (by omega) | exact out4 hi hmi
  ·
   refine H.lf (f := ocI) 1 (Sum.inr (Sum.inl (Sum.inl ([AV.sl 1 0 (15 + kkO n) none, AV.i IntKind.i64 (wr IntKind.i64 ((↑i : Int) + 1)), AV.i IntKind.i64 (↑j : Int)], 1, [AObj.ro nl n [Col.ci IntKind.u64 l], AObj.vec 26 (15 + kkO n) [Col.cf FloatKind.f64 (xsO l n)]])))) (by kernel_rfl) ?_
   first | exact ag4 hi hj (by omega) | exact out4 hi hmi
theorem law4 (hl : ∀ x ∈ l, 0 ≤ x ∧ x < 18446744073709551616) : H (ev Sa 5 4 [.sl 0 0 n (some cap)] (memL 1 [.ro nl n [.ci .u64 l]])) (fun x => x.1 = .b true) (fun _ _ => False) := by
  refine law2 (fi := fi4 false) (by kernel_rfl) (by kernel_rfl) (by kernel_rfl) rfl [0, 1, 0, 1, 1] 2 [0, 1, 0, 0, 1] 2 1 rfl (by kernel_rfl) (by kernel_rfl) (Inv4 nl n l) (Inn4 nl n l) ?_ stepO4 (stepI4 (xs_lt hl))
  refine lawE_Q ?_
  refine H.kd 1 (fun b => b) (n ≤ n) (Nat.le_refl _) (by kernel_rfl) ?_
  refine H.lf (f := oc) 1 (Sum.inr ([0, 1, 0, 1, 1], 2, [AV.sl 1 0 (15 + kkO n) none, AV.i IntKind.i64 0, AV.top], 1, ob4 nl n l)) (by kernel_rfl) ?_
  have hk := kkO_le n
  have hlt : 15 + kkO n - 0 < 1048576 := by omega
  exact ⟨rfl, rfl, _, hlt, 0, _, by omega, rfl, rfl⟩
end
end Go.Proofs.TabR
