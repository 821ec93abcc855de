/- A law walked through by the evaluator, for all columns that its argument may have. -/
import Derived.Test.YthnabafmjhackaaDoorOfR
import Derived.Test.YthnabafmjhackaaDoorArgFR
import Derived.Test.YthnabafmjhackaaDoorLawR4
set_option linter.all false
set_option linter.deprecated false
set_option maxRecDepth 1000000
set_option maxHeartbeats 4000000
namespace Go.Proofs.TabR
open Go Go.Eng
theorem wu (n : Int) : 0 ≤ wr .u64 n ∧ wr .u64 n < 18446744073709551616 := by
  show 0 ≤ n % 18446744073709551616 ∧ n % 18446744073709551616 < 18446744073709551616
  omega
theorem wrK {k : Nat} (h : k ≤ 1000000) : wr .u64 ((k : Int) + 1) = ((k + 1 : Nat) : Int) := by
  show ((k : Int) + 1) % 18446744073709551616 = _
  omega
section
variable {nl : Bool} {n cap : Nat} {l : List Int}
def A5 (nl : Bool) (n cap : Nat) (l : List Int) (m : Nat) (s : St3) : Prop := ∃ (i : Nat), i ≤ 15 + kkO n ∧ m = 15 + kkO n - i ∧ s = ([.sl 0 0 n (some cap), .sl 1 0 (15 + kkO n) none, iv i, .top, .top], 1, ob4 nl n l)
def B5 (nl : Bool) (n cap : Nat) (l : List Int) (m : Nat) (s : St3) : Prop := ∃ (a b : AV) (j : Nat), j ≤ 30 ∧ m = 30 - j ∧ s = ([.sl 0 0 n (some cap), .sl 1 0 (15 + kkO n) none, a, iv j, b], 1, ob4 nl n l)
def C5 (nl : Bool) (n cap : Nat) (l : List Int) (m m2 : Nat) (s : St3) : Prop := ∃ (a : AV) (j k : Nat), (j < n ∧ j < 30) ∧ m = 30 - j ∧ k ≤ 3 ∧ m2 = 3 - k ∧ s = ([.sl 0 0 n (some cap), .sl 1 0 (15 + kkO n) none, a, iv j, .i .u64 k], 1, ob4 nl n l)
theorem agA5 {m i : Nat} (hmi : m = 15 + kkO n - i) (h : i < 15 + kkO n) {G : Stop → Prop} :
    OkL (fun s' => ∃ m', m' < m ∧ A5 nl n cap l m' s') G (.inl ([.sl 0 0 n (some cap), .sl 1 0 (15 + kkO n) none, iv (wr .i64 ((i : Int) + 1)), .top, .top], 1, ob4 nl n l)) := by
  have hk := kkO_le n
  have hlt : 15 + kkO n - (i + 1) < m := by omega
  exact ⟨_, hlt, i + 1, by omega, rfl, by rw [wrM (by omega)]⟩
theorem inB5 {a : AV} {I : St3 → Prop} : OkL I (fun t => t.1 = [0, 1, 0, 1, 1, 1] ∧ t.2.1 = 2 ∧ ∃ m, m < 1048576 ∧ B5 nl n cap l m t.2.2)
    (.inr (.inr ([0, 1, 0, 1, 1, 1], 2, [.sl 0 0 n (some cap), .sl 1 0 (15 + kkO n) none, a, iv 0, .top], 1, ob4 nl n l))) := by
  have hlt : 30 - 0 < 1048576 := by omega
  exact ⟨rfl, rfl, _, hlt, _, _, 0, by omega, rfl, rfl⟩
theorem inC5 {m j : Nat} {a : AV} (hmi : m = 30 - j) (h : j < n ∧ j < 30) {I : St3 → Prop} :
    OkO I (fun _ => False) (fun t => t.1 = [0, 1, 0, 0, 1] ∧ t.2.1 = 2 ∧ ∃ m2, m2 < 1048576 ∧ C5 nl n cap l m m2 t.2.2)
      (.inr ([0, 1, 0, 0, 1], 2, [.sl 0 0 n (some cap), .sl 1 0 (15 + kkO n) none, a, iv j, .i .u64 0], 1, ob4 nl n l)) := by
  have hlt : 3 - 0 < 1048576 := by omega
  exact ⟨rfl, rfl, _, hlt, _, j, 0, h, hmi, by omega, rfl, rfl⟩
theorem agC5 {m j k m2 : Nat} {a : AV} {G' G2 : Stop → Prop} {I : St3 → Prop} (hi : (j < n ∧ j < 30) ∧ m = 30 - j) (hk2 : m2 = 3 - k) (h : k < 3) :
    OkI (fun s' => ∃ m', m' < m2 ∧ C5 nl n cap l m m' s') I G' G2 (.inl ([.sl 0 0 n (some cap), .sl 1 0 (15 + kkO n) none, a, iv j, .i .u64 (wr .u64 ((k : Int) + 1))], 1, ob4 nl n l)) := by
  have hlt : 3 - (k + 1) < m2 := by omega
  exact ⟨_, hlt, _, j, k + 1, hi.1, hi.2, by omega, rfl, by rw [wrK (by omega)]⟩
theorem outC5 {m j : Nat} {a b : AV} {G' G2 : Stop → Prop} {I2 : St3 → Prop} (hi : (j < n ∧ j < 30) ∧ m = 30 - j) (hmi : m = 30 - j) :
    OkI I2 (fun s' => ∃ m', m' < m ∧ B5 nl n cap l m' s') G' G2 (.inr (.inl (.inl ([.sl 0 0 n (some cap), .sl 1 0 (15 + kkO n) none, a, iv (wr .i64 ((j : Int) + 1)), b], 1, ob4 nl n l)))) := by
  have hlt : 30 - (j + 1) < m := by omega
  exact ⟨_, hlt, _, _, j + 1, by omega, rfl, by rw [wrM (by omega)]⟩
theorem stepA5 (hx : ∀ j, List.getD (xsO l n) j 0 < 18446744073709551616) (m : Nat) (s : St3) (hi : A5 nl n cap l m s) :
    H (lawL Sb (fi5 false) 1 [1,1,0,1,0] 2 [.sl 0 0 n (some cap)] s) (OkS (fun s' => ∃ m', m' < m ∧ A5 nl n cap l m' s') (OkT (fun t => t.1 = [0, 1, 0, 1, 1, 1] ∧ t.2.1 = 2 ∧ ∃ m, m < 1048576 ∧ B5 nl n cap l m t.2.2))) F0 := by
  obtain ⟨i, hi, hmi, rfl⟩ := hi
  refine lawL_Q ?_
  refine H.sd 1 (fun b => b) ((↑i : Int) < (↑(15 + kkO n) : Int)) (by kernel_rfl) (fun h1 => ?_) (fun h1 => ?_)
  ·
   refine H.kd 5 (fun b => b) ((↑i : Int) < (↑(15 + kkO n) : Int)) (by (first | assumption | omega | with_reducible exact hx _ | exact beq_self_eq_true _)) (by kernel_rfl) ?_
   refine H.kl 1 (fun b => b) (0 + Int.toNat (↑i : Int)) (15 + kkO n) (by (first | assumption | omega | with_reducible exact hx _ | exact beq_self_eq_true _)) (by kernel_rfl) ?_
   refine H.kd 1 (fun b => b) (List.getD (xsO l n) (0 + Int.toNat (↑i : Int)) 0 < 18446744073709551616) (by (first | assumption | omega | with_reducible exact hx _ | exact beq_self_eq_true _)) (by kernel_rfl) ?_
   refine H.kd 5 (fun b => b) ((↑i : Int) < (↑(15 + kkO n) : Int)) (by (first | assumption | omega | with_reducible exact hx _ | exact beq_self_eq_true _)) (by kernel_rfl) ?_
   refine H.kl 1 (fun b => b) (0 + Int.toNat (↑i : Int)) (15 + kkO n) (by (first | assumption | omega | with_reducible exact hx _ | exact beq_self_eq_true _)) (by kernel_rfl) ?_
   refine H.kd 3 (fun b => b) (List.getD (xsO l n) (0 + Int.toNat (↑i : Int)) 0 < 18446744073709551616) (by (first | assumption | omega | with_reducible exact hx _ | exact beq_self_eq_true _)) (by kernel_rfl) ?_
   refine H.ke 1 (fun b => (!b)) (bitsO (List.getD (xsO l n) (0 + Int.toNat (↑i : Int)) 0)) (bitsO (List.getD (xsO l n) (0 + Int.toNat (↑i : Int)) 0)) (by (first | assumption | omega | with_reducible exact hx _ | exact beq_self_eq_true _)) (by kernel_rfl) ?_
   refine H.lf (f := oc2) 1 (Sum.inl ([AV.sl 0 0 n (some cap), AV.sl 1 0 (15 + kkO n) none, AV.i IntKind.i64 (wr IntKind.i64 ((↑i : Int) + 1)), AV.top, AV.top], 1, [AObj.ro nl n [Col.ci IntKind.u64 l], AObj.vec 26 (15 + kkO n) [Col.cf FloatKind.f64 (xsO l n)]])) (by kernel_rfl) ?_
   first | exact agA5 hmi (by omega) | exact inB5
  ·
   refine H.lf (f := oc2) 0 (Sum.inr (Sum.inr ([0, 1, 0, 1, 1, 1], 2, [AV.sl 0 0 n (some cap), AV.sl 1 0 (15 + kkO n) none, AV.i IntKind.i64 (↑i : Int), AV.i IntKind.i64 0, AV.top], 1, [AObj.ro nl n [Col.ci IntKind.u64 l], AObj.vec 26 (15 + kkO n) [Col.cf FloatKind.f64 (xsO l n)]]))) (by kernel_rfl) ?_
   first | exact agA5 hmi (by omega) | exact inB5
theorem stepB5 (m : Nat) (s : St3) (hi : B5 nl n cap l m s) :
    H (lawO Sb (fi5 false) 1 [1,1,1,0,1,0] 2 [.sl 0 0 n (some cap)] s) (OkY (OkS (fun s' => ∃ m', m' < m ∧ B5 nl n cap l m' s') (OkT (fun _ => False))) (fun t => t.1 = [0, 1, 0, 0, 1] ∧ t.2.1 = 2 ∧ ∃ m2, m2 < 1048576 ∧ C5 nl n cap l m m2 t.2.2)) F0 := by
  obtain ⟨a, b, j, hi, hmi, rfl⟩ := hi
  refine lawO_Q ?_
  refine H.sd 1 (fun b => (b == true)) ((↑j : Int) < (↑n : Int)) (by kernel_rfl) (fun h1 => ?_) (fun h1 => ?_)
  ·
   refine H.sd 3 (fun b => b) ((↑j : Int) < 30) (by kernel_rfl) (fun h2 => ?_) (fun h2 => ?_)
   ·
    refine H.lf (f := ocO) 0 (Sum.inr ([0, 1, 0, 0, 1], 2, [AV.sl 0 0 n (some cap), AV.sl 1 0 (15 + kkO n) none, a, AV.i IntKind.i64 (↑j : Int), AV.i IntKind.u64 0], 1, [AObj.ro nl n [Col.ci IntKind.u64 l], AObj.vec 26 (15 + kkO n) [Col.cf FloatKind.f64 (xsO l n)]])) (by kernel_rfl) ?_
    first | exact inC5 hmi (by omega) | exact rfl
   ·
    refine H.lf (f := ocO) 1 (Sum.inl (Sum.inr (Sum.inl (AV.b true)))) (by kernel_rfl) ?_
    first | exact inC5 hmi (by omega) | exact rfl
  ·
   refine H.lf (f := ocO) 4 (Sum.inl (Sum.inr (Sum.inl (AV.b true)))) (by kernel_rfl) ?_
   first | exact inC5 hmi (by omega) | exact rfl
theorem stepC5 (m m2 : Nat) (s : St3) (hi : C5 nl n cap l m m2 s) :
    H (lawI Sb (fi5 false) 1 [1,1,1,0,1,0] 2 [1,0,0,1,0] 2 [.sl 0 0 n (some cap)] s) (OkS (fun s' => ∃ m', m' < m2 ∧ C5 nl n cap l m m' s') (OkY (OkS (fun s' => ∃ m', m' < m ∧ B5 nl n cap l m' s') (OkT (fun _ => False))) (fun _ => False))) F0 := by
  obtain ⟨a, j, k, hj, hmi, hk, hk2, rfl⟩ := hi
  have hi := And.intro hj hmi
  have hj1 := hj.1
  refine lawI_Q ?_
  refine H.sd 1 (fun b => b) ((↑k : Int) < 3) (by kernel_rfl) (fun h1 => ?_) (fun h1 => ?_)
  ·
   refine H.kd 2 (fun b => b) ((↑j : Int) < (↑n : Int)) (by (first | assumption | omega | with_reducible exact hx _ | exact beq_self_eq_true _)) (by kernel_rfl) ?_
   refine H.kl 0 (fun b => b) (0 + Int.toNat (↑j : Int)) (n) (by (first | assumption | omega | with_reducible exact hx _ | exact beq_self_eq_true _)) (by kernel_rfl) ?_
   refine H.sd 2 (fun b => b) (0 ≤ wr IntKind.u64 (wr IntKind.u64 (List.getD l (0 + Int.toNat (↑j : Int)) 0 + (↑k : Int)) - 1) ∧ wr IntKind.u64 (wr IntKind.u64 (List.getD l (0 + Int.toNat (↑j : Int)) 0 + (↑k : Int)) - 1) < 18446744073709551616) (by kernel_rfl) (fun h2 => ?_) (fun h2 => ?_)
   ·
    refine H.kd 0 (fun b => b) (0 ≤ wr IntKind.u64 (wr IntKind.u64 (List.getD l (0 + Int.toNat (↑j : Int)) 0 + (↑k : Int)) - 1) ∧ wr IntKind.u64 (wr IntKind.u64 (List.getD l (0 + Int.toNat (↑j : Int)) 0 + (↑k : Int)) - 1) < 18446744073709551616) (by (first | assumption | omega | with_reducible exact hx _ | exact beq_self_eq_true _)) (by kernel_rfl) ?_
    refine H.kd 0 (fun b => b) (ofO (wr IntKind.u64 (wr IntKind.u64 (List.getD l (0 + Int.toNat (↑j : Int)) 0 + (↑k : Int)) - 1)) = ofO (wr IntKind.u64 (wr IntKind.u64 (List.getD l (0 + Int.toNat (↑j : Int)) 0 + (↑k : Int)) - 1))) (by (first | assumption | omega | with_reducible exact hx _ | exact beq_self_eq_true _)) (by kernel_rfl) ?_
    refine H.lf (f := ocI) 2 (Sum.inl ([AV.sl 0 0 n (some cap), AV.sl 1 0 (15 + kkO n) none, a, AV.i IntKind.i64 (↑j : Int), AV.i IntKind.u64 (wr IntKind.u64 ((↑k : Int) + 1))], 1, [AObj.ro nl n [Col.ci IntKind.u64 l], AObj.vec 26 (15 + kkO n) [Col.cf FloatKind.f64 (xsO l n)]])) (by kernel_rfl) ?_
    first | exact agC5 hi hk2 (by omega) | exact outC5 hi hmi
   ·
    exact absurd (wu _) h2
  ·
   refine H.lf (f := ocI) 1 (Sum.inr (Sum.inl (Sum.inl ([AV.sl 0 0 n (some cap), AV.sl 1 0 (15 + kkO n) none, a, AV.i IntKind.i64 (wr IntKind.i64 ((↑j : Int) + 1)), AV.i IntKind.u64 (↑k : Int)], 1, [AObj.ro nl n [Col.ci IntKind.u64 l], AObj.vec 26 (15 + kkO n) [Col.cf FloatKind.f64 (xsO l n)]])))) (by kernel_rfl) ?_
   first | exact agC5 hi hk2 (by omega) | exact outC5 hi hmi
theorem law5 (hl : ∀ x ∈ l, 0 ≤ x ∧ x < 18446744073709551616) : H (ev Sb 5 5 [.sl 0 0 n (some cap)] (memL 1 [.ro nl n [.ci .u64 l]])) (fun x => x.1 = .b true) (fun _ _ => False) := by
  refine lawSeqN (fi := fi5 false) (by kernel_rfl) (by kernel_rfl) (by kernel_rfl) rfl [0, 1, 0, 1, 1] 2 [0, 1, 0, 1, 1, 1] 2 [0, 1, 0, 0, 1] 2 1 rfl (by kernel_rfl) (by kernel_rfl) (by kernel_rfl) (A5 nl n cap l) (B5 nl n cap l) (C5 nl n cap l) ?_ (stepA5 (xs_lt hl)) stepB5 stepC5
  refine lawE_Q ?_
  refine H.kd 1 (fun b => b) (n ≤ n) (Nat.le_refl _) (by kernel_rfl) ?_
  refine H.lf (f := oc) 1 (Sum.inr ([0, 1, 0, 1, 1], 2, [AV.sl 0 0 n (some cap), AV.sl 1 0 (15 + kkO n) none, AV.i IntKind.i64 0, AV.top, AV.top], 1, ob4 nl n l)) (by kernel_rfl) ?_
  have hk := kkO_le n
  have hlt : 15 + kkO n - 0 < 1048576 := by omega
  exact .inl ⟨rfl, rfl, _, hlt, 0, by omega, rfl, rfl⟩
end
end Go.Proofs.TabR
