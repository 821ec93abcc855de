/- A law walked through by the evaluator, for all columns that its argument may have. -/
import Derived.Test.YthnabafmjhackaaDoorArgGR
import Derived.Test.YthnabafmjhackaaDoorArgFR
import Derived.Test.YthnabafmjhackaaDoorWinR
import Derived.Test.YthnabafmjhackaaDoorLawR4
set_option linter.all false
set_option linter.deprecated false
set_option maxRecDepth 1000000
set_option maxHeartbeats 4000000
namespace Go.Proofs.TabR
open Go Go.Eng
theorem wrP {i j : Nat} (h : i ≤ 1000000) (h2 : j ≤ 10) : wr .i64 ((i : Int) + (j : Int)) = ((i + j : Nat) : Int) := by rw [wr64 (by omega) (by omega)]; rfl
theorem tmod3 (n : Nat) : Int.tmod (n : Int) 3 = ((n % 3 : Nat) : Int) := rfl
theorem wrT {k n : Nat} (h : k ≤ 1000) : wr .i64 (wr .i64 ((k : Int) + 1) + Int.tmod (n : Int) 3) = ((k + 1 + n % 3 : Nat) : Int) := by
  rw [wrM (by omega), tmod3]
  exact wrP (by omega) (by omega)
section
variable {nl : Bool} {n cap : Nat} {l : List Int}
def A8 (nl : Bool) (n cap : Nat) (l : List Int) (m : Nat) (s : St3) : Prop := ∃ (i : Nat) (a b : AV), i ≤ 15 + kkO n ∧ m = 15 + kkO n - i ∧ s = ([.sl 0 0 n (some cap), .sl 1 0 (15 + kkO n) none, iv i, a, b], 1, ob4 nl n l)
def B8 (nl : Bool) (n cap : Nat) (l : List Int) (m m2 : Nat) (s : St3) : Prop := ∃ (i k : Nat) (b : AV), i < 15 + kkO n ∧ m = 15 + kkO n - i ∧ k ≤ 60 ∧ m2 = 60 - k ∧ s = ([.sl 0 0 n (some cap), .sl 1 0 (15 + kkO n) none, iv i, iv k, b], 1, ob4 nl n l)
def C8 (nl : Bool) (n cap : Nat) (l : List Int) (m m2 m3 : Nat) (s : St3) : Prop := ∃ (i k j : Nat), i < 15 + kkO n ∧ m = 15 + kkO n - i ∧ k < 15 + kkO n ∧ m2 = 60 - k ∧ j ≤ 60 ∧ m3 = 60 - j ∧ s = ([.sl 0 0 n (some cap), .sl 1 0 (15 + kkO n) none, iv i, iv k, iv j], 1, ob4 nl n l)
theorem in8 {m i : Nat} {b : AV} (hmi : m = 15 + kkO n - i) (h : i < 15 + kkO n) {I : St3 → Prop} :
    OkO I (fun _ => False) (fun t => t.1 = [0, 1, 0, 0, 1] ∧ t.2.1 = 2 ∧ ∃ m2, m2 < 1048576 ∧ B8 nl n cap l m m2 t.2.2)
      (.inr ([0, 1, 0, 0, 1], 2, [.sl 0 0 n (some cap), .sl 1 0 (15 + kkO n) none, iv i, iv 0, b], 1, ob4 nl n l)) := by
  have hlt : 60 - 0 < 1048576 := by omega
  exact ⟨rfl, rfl, _, hlt, i, 0, _, h, hmi, by omega, rfl, rfl⟩
theorem inM8 {m m2 i k : Nat} (hi : i < 15 + kkO n ∧ m = 15 + kkO n - i) (hk2 : m2 = 60 - k) (h : k < 15 + kkO n) {I2 I : St3 → Prop} {G G2 : Stop → Prop} :
    OkM I2 I G G2 (fun t => t.1 = [0, 1, 0, 0, 1] ∧ t.2.1 = 2 ∧ ∃ m3, m3 < 1048576 ∧ C8 nl n cap l m m2 m3 t.2.2)
      (.inr ([0, 1, 0, 0, 1], 2, [.sl 0 0 n (some cap), .sl 1 0 (15 + kkO n) none, iv i, iv k, iv 0], 1, ob4 nl n l)) := by
  have hlt : 60 - 0 < 1048576 := by omega
  exact ⟨rfl, rfl, _, hlt, i, k, 0, hi.1, hi.2, h, hk2, by omega, rfl, rfl⟩
theorem outM8 {m i : Nat} {a b : AV} {G G2 G3 : Stop → Prop} {I2 : St3 → Prop} (hi : i < 15 + kkO n ∧ m = 15 + kkO n - i) (hmi : m = 15 + kkO n - i) :
    OkM I2 (fun s' => ∃ m', m' < m ∧ A8 nl n cap l m' s') G G2 G3 (.inl (.inr (.inl (.inl ([.sl 0 0 n (some cap), .sl 1 0 (15 + kkO n) none, iv (wr .i64 ((i : Int) + 1)), a, b], 1, ob4 nl n l))))) := by
  have hk := kkO_le n
  have hlt : 15 + kkO n - (i + 1) < m := by omega
  exact ⟨_, hlt, i + 1, _, _, by omega, rfl, by rw [wrM (by omega)]⟩
theorem agJ8 {m m2 m3 i k j : Nat} (hi : i < 15 + kkO n ∧ m = 15 + kkO n - i) (hk : k < 15 + kkO n ∧ m2 = 60 - k) (hj : m3 = 60 - j) (h : j < 15 + kkO n) {I2 I : St3 → Prop} {G G2 G3 : Stop → Prop} :
    OkJ (fun s' => ∃ m', m' < m3 ∧ C8 nl n cap l m m2 m' s') I2 I G G2 G3 (.inl ([.sl 0 0 n (some cap), .sl 1 0 (15 + kkO n) none, iv i, iv k, iv (wr .i64 ((j : Int) + 2))], 1, ob4 nl n l)) := by
  have hkk := kkO_le n
  have hlt : 60 - (j + 2) < m3 := by omega
  exact ⟨_, hlt, i, k, j + 2, hi.1, hi.2, hk.1, hk.2, by omega, rfl, by rw [show (2 : Int) = ((2 : Nat) : Int) from rfl, wrP (by omega) (by omega)]⟩
theorem outJ8 {m m2 i k : Nat} {b : AV} (hi : i < 15 + kkO n ∧ m = 15 + kkO n - i) (hk : k < 15 + kkO n ∧ m2 = 60 - k) {I3 I : St3 → Prop} {G G2 G3 : Stop → Prop} :
    OkJ I3 (fun s' => ∃ m', m' < m2 ∧ B8 nl n cap l m m' s') I G G2 G3 (.inr (.inl (.inl ([.sl 0 0 n (some cap), .sl 1 0 (15 + kkO n) none, iv i, iv (wr .i64 (wr .i64 ((k : Int) + 1) + Int.tmod (n : Int) 3)), b], 1, ob4 nl n l)))) := by
  have hkk := kkO_le n
  have hlt : 60 - (k + 1 + n % 3) < m2 := by omega
  exact ⟨_, hlt, i, k + 1 + n % 3, _, hi.1, hi.2, by omega, rfl, by rw [wrT (by omega)]⟩
theorem stepO8 (hx : ∀ j, List.getD (xsO l n) j 0 < 18446744073709551616) (m : Nat) (s : St3) (hi : A8 nl n cap l m s) :
    H (lawO Sc (fi8 false) 1 [1,1,0,1,0] 2 [.sl 0 0 n (some cap)] s) (OkY (OkS (fun s' => ∃ m', m' < m ∧ A8 nl n cap l m' s') (OkT (fun _ => False))) (fun t => t.1 = [0, 1, 0, 0, 1] ∧ t.2.1 = 2 ∧ ∃ m2, m2 < 1048576 ∧ B8 nl n cap l m m2 t.2.2)) (fun _ _ => False) := by
  obtain ⟨i, a, b, hi, hmi, rfl⟩ := hi
  refine lawO_Q ?_
  refine H.sd 1 (fun b => b) ((↑i : Int) < (↑(15 + kkO n) : Int)) (by kernel_rfl) (fun h1 => ?_) (fun h1 => ?_)
  ·
   refine H.lf (f := ocO) 0 (Sum.inr ([0, 1, 0, 0, 1], 2, [AV.sl 0 0 n (some cap), AV.sl 1 0 (15 + kkO n) none, AV.i IntKind.i64 (↑i : Int), AV.i IntKind.i64 0, b], 1, [AObj.ro nl n [Col.ci IntKind.u64 l], AObj.vec 26 (15 + kkO n) [Col.cf FloatKind.f64 (xsO l n)]])) (by kernel_rfl) ?_
   first | exact in8 hmi (by omega) | exact rfl
  ·
   refine H.lf (f := ocO) 1 (Sum.inl (Sum.inr (Sum.inl (AV.b true)))) (by kernel_rfl) ?_
   first | exact in8 hmi (by omega) | exact rfl
theorem stepM8 (hx : ∀ j, List.getD (xsO l n) j 0 < 18446744073709551616) (m m2 : Nat) (s : St3) (hi : B8 nl n cap l m m2 s) :
    H (lawM Sc (fi8 false) 1 [1,1,0,1,0] 2 [1,0,0,1,0] 2 [.sl 0 0 n (some cap)] s) (OkY (OkS (fun s' => ∃ m', m' < m2 ∧ B8 nl n cap l m m' s') (OkY (OkS (fun s' => ∃ m', m' < m ∧ A8 nl n cap l m' s') (OkT (fun _ => False))) (fun _ => False))) (fun t => t.1 = [0, 1, 0, 0, 1] ∧ t.2.1 = 2 ∧ ∃ m3, m3 < 1048576 ∧ C8 nl n cap l m m2 m3 t.2.2)) (fun _ _ => False) := by
  obtain ⟨i, k, b, h0, hmi, hk0, hk2, rfl⟩ := hi
  have hi := And.intro h0 hmi
  refine lawM_Q ?_
  refine H.sd 1 (fun b => b) ((↑k : Int) < (↑(15 + kkO n) : Int)) (by kernel_rfl) (fun h1 => ?_) (fun h1 => ?_)
  ·
   refine H.lf (f := ocM) 0 (Sum.inr ([0, 1, 0, 0, 1], 2, [AV.sl 0 0 n (some cap), AV.sl 1 0 (15 + kkO n) none, AV.i IntKind.i64 (↑i : Int), AV.i IntKind.i64 (↑k : Int), AV.i IntKind.i64 0], 1, [AObj.ro nl n [Col.ci IntKind.u64 l], AObj.vec 26 (15 + kkO n) [Col.cf FloatKind.f64 (xsO l n)]])) (by kernel_rfl) ?_
   first | exact inM8 hi hk2 (by omega) | exact outM8 hi hmi
  ·
   refine H.lf (f := ocM) 1 (Sum.inl (Sum.inr (Sum.inl (Sum.inl ([AV.sl 0 0 n (some cap), AV.sl 1 0 (15 + kkO n) none, AV.i IntKind.i64 (wr IntKind.i64 ((↑i : Int) + 1)), AV.i IntKind.i64 (↑k : Int), b], 1, [AObj.ro nl n [Col.ci IntKind.u64 l], AObj.vec 26 (15 + kkO n) [Col.cf FloatKind.f64 (xsO l n)]]))))) (by kernel_rfl) ?_
   first | exact inM8 hi hk2 (by omega) | exact outM8 hi hmi
theorem stepJ8 (hx : ∀ j, List.getD (xsO l n) j 0 < 18446744073709551616) (m m2 m3 : Nat) (s : St3) (hi : C8 nl n cap l m m2 m3 s) :
    H (lawJ Sc (fi8 false) 1 [1,1,0,1,0] 2 [1,0,0,1,0] 2 [1,0,0,1,0] 2 [.sl 0 0 n (some cap)] s) (OkS (fun s' => ∃ m', m' < m3 ∧ C8 nl n cap l m m2 m' s') (OkY (OkS (fun s' => ∃ m', m' < m2 ∧ B8 nl n cap l m m' s') (OkY (OkS (fun s' => ∃ m', m' < m ∧ A8 nl n cap l m' s') (OkT (fun _ => False))) (fun _ => False))) (fun _ => False))) (fun _ _ => False) := by
  obtain ⟨i, k, j, h0, hmi, hk0, hk2, hj0, hj, rfl⟩ := hi
  have hi := And.intro h0 hmi
  have hk := And.intro hk0 hk2
  refine lawJ_Q ?_
  refine H.sd 1 (fun b => b) ((↑j : Int) < (↑(15 + kkO n) : Int)) (by kernel_rfl) (fun h1 => ?_) (fun h1 => ?_)
  ·
   refine H.kd 5 (fun b => b) ((↑i : Int) < (↑(15 + kkO n) : Int)) (by (first | assumption | omega | with_reducible exact hx _ | exact beq_self_eq_true _)) (by kernel_rfl) ?_
   refine H.kl 1 (fun b => b) (0 + Int.toNat (↑i : Int)) (15 + kkO n) (by (first | assumption | omega | with_reducible exact hx _ | exact beq_self_eq_true _)) (by kernel_rfl) ?_
   refine H.kd 5 (fun b => b) ((↑k : Int) < (↑(15 + kkO n) : Int)) (by (first | assumption | omega | with_reducible exact hx _ | exact beq_self_eq_true _)) (by kernel_rfl) ?_
   refine H.kl 1 (fun b => b) (0 + Int.toNat (↑k : Int)) (15 + kkO n) (by (first | assumption | omega | with_reducible exact hx _ | exact beq_self_eq_true _)) (by kernel_rfl) ?_
   refine H.kd 5 (fun b => b) ((↑j : Int) < (↑(15 + kkO n) : Int)) (by (first | assumption | omega | with_reducible exact hx _ | exact beq_self_eq_true _)) (by kernel_rfl) ?_
   refine H.kl 1 (fun b => b) (0 + Int.toNat (↑j : Int)) (15 + kkO n) (by (first | assumption | omega | with_reducible exact hx _ | exact beq_self_eq_true _)) (by kernel_rfl) ?_
   refine H.kd 1 (fun b => b) (List.getD (xsO l n) (0 + Int.toNat (↑i : Int)) 0 < 18446744073709551616) (by (first | assumption | omega | with_reducible exact hx _ | exact beq_self_eq_true _)) (by kernel_rfl) ?_
   refine H.kd 0 (fun b => b) (List.getD (xsO l n) (0 + Int.toNat (↑k : Int)) 0 < 18446744073709551616) (by (first | assumption | omega | with_reducible exact hx _ | exact beq_self_eq_true _)) (by kernel_rfl) ?_
   refine H.kd 0 (fun b => b) (List.getD (xsO l n) (0 + Int.toNat (↑j : Int)) 0 < 18446744073709551616) (by (first | assumption | omega | with_reducible exact hx _ | exact beq_self_eq_true _)) (by kernel_rfl) ?_
   refine H.kd 5 (fun b => b) ((↑i : Int) < (↑(15 + kkO n) : Int)) (by (first | assumption | omega | with_reducible exact hx _ | exact beq_self_eq_true _)) (by kernel_rfl) ?_
   refine H.kl 1 (fun b => b) (0 + Int.toNat (↑i : Int)) (15 + kkO n) (by (first | assumption | omega | with_reducible exact hx _ | exact beq_self_eq_true _)) (by kernel_rfl) ?_
   refine H.kd 5 (fun b => b) ((↑k : Int) < (↑(15 + kkO n) : Int)) (by (first | assumption | omega | with_reducible exact hx _ | exact beq_self_eq_true _)) (by kernel_rfl) ?_
   refine H.kl 1 (fun b => b) (0 + Int.toNat (↑k : Int)) (15 + kkO n) (by (first | assumption | omega | with_reducible exact hx _ | exact beq_self_eq_true _)) (by kernel_rfl) ?_
   refine H.kd 5 (fun b => b) ((↑j : Int) < (↑(15 + kkO n) : Int)) (by (first | assumption | omega | with_reducible exact hx _ | exact beq_self_eq_true _)) (by kernel_rfl) ?_
   refine H.kl 1 (fun b => b) (0 + Int.toNat (↑j : Int)) (15 + kkO n) (by (first | assumption | omega | with_reducible exact hx _ | exact beq_self_eq_true _)) (by kernel_rfl) ?_
   refine H.kd 3 (fun b => b) (List.getD (xsO l n) (0 + Int.toNat (↑i : Int)) 0 < 18446744073709551616) (by (first | assumption | omega | with_reducible exact hx _ | exact beq_self_eq_true _)) (by kernel_rfl) ?_
   refine H.kd 0 (fun b => b) (List.getD (xsO l n) (0 + Int.toNat (↑k : Int)) 0 < 18446744073709551616) (by (first | assumption | omega | with_reducible exact hx _ | exact beq_self_eq_true _)) (by kernel_rfl) ?_
   refine H.kd 0 (fun b => b) (List.getD (xsO l n) (0 + Int.toNat (↑j : Int)) 0 < 18446744073709551616) (by (first | assumption | omega | with_reducible exact hx _ | exact beq_self_eq_true _)) (by kernel_rfl) ?_
   refine H.kd 0 (fun b => b) (clampO (List.getD (xsO l n) (0 + Int.toNat (↑i : Int)) 0) (List.getD (xsO l n) (0 + Int.toNat (↑k : Int)) 0) (List.getD (xsO l n) (0 + Int.toNat (↑j : Int)) 0) = clampO (List.getD (xsO l n) (0 + Int.toNat (↑i : Int)) 0) (List.getD (xsO l n) (0 + Int.toNat (↑k : Int)) 0) (List.getD (xsO l n) (0 + Int.toNat (↑j : Int)) 0)) (by (first | assumption | omega | with_reducible exact hx _ | exact beq_self_eq_true _)) (by kernel_rfl) ?_
   refine H.lf (f := ocJ) 2 (Sum.inl ([AV.sl 0 0 n (some cap), AV.sl 1 0 (15 + kkO n) none, AV.i IntKind.i64 (↑i : Int), AV.i IntKind.i64 (↑k : Int), AV.i IntKind.i64 (wr IntKind.i64 ((↑j : Int) + 2))], 1, [AObj.ro nl n [Col.ci IntKind.u64 l], AObj.vec 26 (15 + kkO n) [Col.cf FloatKind.f64 (xsO l n)]])) (by kernel_rfl) ?_
   first | exact agJ8 hi hk hj (by omega) | exact outJ8 hi hk
  ·
   refine H.lf (f := ocJ) 4 (Sum.inr (Sum.inl (Sum.inl ([AV.sl 0 0 n (some cap), AV.sl 1 0 (15 + kkO n) none, AV.i IntKind.i64 (↑i : Int), AV.i IntKind.i64 (wr IntKind.i64 (wr IntKind.i64 ((↑k : Int) + 1) + Int.tmod (↑n : Int) 3)), AV.i IntKind.i64 (↑j : Int)], 1, [AObj.ro nl n [Col.ci IntKind.u64 l], AObj.vec 26 (15 + kkO n) [Col.cf FloatKind.f64 (xsO l n)]])))) (by kernel_rfl) ?_
   first | exact agJ8 hi hk hj (by omega) | exact outJ8 hi hk
theorem law8 (hl : ∀ x ∈ l, 0 ≤ x ∧ x < 18446744073709551616) : H (ev Sc 5 8 [.sl 0 0 n (some cap)] (memL 1 [.ro nl n [.ci .u64 l]])) (fun x => x.1 = .b true) (fun _ _ => False) := by
  have hx := fun j => xs_lt (n := n) hl j
  refine law3N (fi := fi8 false) (by kernel_rfl) (by kernel_rfl) (by kernel_rfl) rfl [0, 1, 0, 1, 1] 2 [0, 1, 0, 0, 1] 2 [0, 1, 0, 0, 1] 2 1 rfl (by kernel_rfl) (by kernel_rfl) (by kernel_rfl) (A8 nl n cap l) (B8 nl n cap l) (C8 nl n cap l) ?_ (stepO8 hx) (stepM8 hx) (stepJ8 hx)
  refine lawE_Q ?_
  refine H.kd 1 (fun b => b) (n ≤ n) (Nat.le_refl _) (by kernel_rfl) ?_
  refine H.lf (f := oc) 1 (Sum.inr ([0, 1, 0, 1, 1], 2, [AV.sl 0 0 n (some cap), AV.sl 1 0 (15 + kkO n) none, AV.i IntKind.i64 0, AV.top, AV.top], 1, ob4 nl n l)) (by kernel_rfl) ?_
  have hk := kkO_le n
  have hlt : 15 + kkO n - 0 < 1048576 := by omega
  exact ⟨rfl, rfl, _, hlt, 0, _, _, by omega, rfl, rfl⟩
end
end Go.Proofs.TabR
