/- Lemmas about the evaluator of the code. -/
import Derived.Test.YthnabafmjhackaaDoorFltR
import Derived.Test.YthnabafmjhackaaDoorArgER
set_option linter.all false
set_option linter.deprecated false
set_option maxRecDepth 1000000
set_option maxHeartbeats 4000000
namespace Go.Proofs.TabR
open Go Go.Eng
/-- The floats at their ends. -/
def edgeL : List Nat := [18442240474082181120, 18442240474082181119, 13830554455654793216, 9227875636482146304, 9227875636482146303, 9223372036854775809, 9223372036854775808, 0, 1, 4503599627370495, 4503599627370496, 4607182418800017408, 9218868437227405311, 9218868437227405312, 9221120237041090561]
def wsL (l : List Int) (n : Nat) : List Nat := (List.range n).map fun j => (l.getD j 0).toNat
theorem wsL_succ (l : List Int) (n : Nat) : wsL l (n + 1) = wsL l n ++ [(l.getD n 0).toNat] := by simp [wsL, List.range_succ]
theorem wsL_len (l : List Int) (n : Nat) : (wsL l n).length = n := by simp [wsL]
def kkV (n : Nat) : Nat := if n < 30 then n else 30
noncomputable def kkO (n : Nat) : Nat := opq (kkV n)
theorem kkO_eq (n : Nat) : kkO n = kkV n := opq_eq _
theorem kkO_le (n : Nat) : kkO n ≤ 30 := by rw [kkO_eq]; unfold kkV; split <;> omega
noncomputable def xsO (l : List Int) (n : Nat) : List Nat := opq (edgeL ++ wsL l (kkV n))
theorem xsO_eq (l : List Int) (n : Nat) : xsO l n = edgeL ++ wsL l (kkV n) := opq_eq _
theorem edge_lt : ∀ x ∈ edgeL, x < 18446744073709551616 := by decide
theorem xs_lt {l : List Int} {n : Nat} (h : ∀ x ∈ l, 0 ≤ x ∧ x < 18446744073709551616) (j : Nat) : (xsO l n).getD j 0 < 18446744073709551616 := by
  rw [xsO_eq]
  have hall : ∀ x ∈ edgeL ++ wsL l (kkV n), x < 18446744073709551616 := by
    intro x hx
    rcases List.mem_append.1 hx with hx | hx
    · exact edge_lt x hx
    · obtain ⟨j, _, rfl⟩ := List.mem_map.1 hx
      rcases Nat.lt_or_ge j l.length with hj | hj
      · have := h (l.getD j 0) (by rw [List.getD_eq_getElem?_getD, List.getElem?_eq_getElem hj]; exact List.getElem_mem hj)
        omega
      · rw [List.getD_eq_getElem?_getD, List.getElem?_eq_none hj]; decide
  rcases Nat.lt_or_ge j (edgeL ++ wsL l (kkV n)).length with hj | hj
  · rw [List.getD_eq_getElem?_getD, List.getElem?_eq_getElem hj]; exact hall _ (List.getElem_mem hj)
  · rw [List.getD_eq_getElem?_getD, List.getElem?_eq_none hj]; decide
abbrev ownE : AObj := .own 26 1 [fv 18442240474082181120, fv 18442240474082181119, fv 13830554455654793216, fv 9227875636482146304, fv 9227875636482146303, fv 9223372036854775809, fv 9223372036854775808, fv 0, fv 1, fv 4503599627370495, fv 4503599627370496, fv 4607182418800017408, fv 9218868437227405311, fv 9218868437227405312, fv 9221120237041090561]
theorem t13 {nl : Bool} {n m : Nat} {cap : Option Nat} {l : List Int} {Q : An → Prop} (h : n ≤ m) (hq0 : n = 0 → Q (.sl 1 0 15 (some 15), [ownE])) (hq : 0 < n → Q (.sl 1 0 (15 + kkO n) none, [.vec 26 (15 + kkO n) [.cf .f64 (xsO l n)]])) :
    H (ev Sx 5 13 [.sl 0 0 n cap] (memL 1 [.ro nl m [.ci .u64 l]])) (fun x => Q (resV 1 x)) F0 := by
  have fin : ∀ i : Nat, 1 ≤ i → i ≤ 30 → i ≤ n → (¬ ((i : Int) < n) ∨ ¬ ((i : Int) < 30)) → Q (.sl 1 0 (15 + i) none, [.vec 26 (15 + i) [.cf .f64 (edgeL ++ wsL l i)]]) := by
    intro i h1 h2 h3 h4
    have e : kkV n = i := by unfold kkV; split <;> omega
    have := hq (by omega)
    rw [kkO_eq, xsO_eq, e] at this
    exact this
  refine fn1 (fi := fi13 false) (by kernel_rfl) (by kernel_rfl) (by kernel_rfl) rfl [0, 1, 0, 1, 1] 2 1 rfl (by kernel_rfl)
    (fun mm s => (mm = 30 ∧ s = ([.sl 0 0 n cap, .sl 1 0 15 (some 15), iv 0], 1, [.ro nl m [.ci .u64 l], ownE])) ∨ ∃ i : Nat, 1 ≤ i ∧ i ≤ 30 ∧ i ≤ n ∧ mm = 30 - i ∧ s = ([.sl 0 0 n cap, .sl 2 0 (15 + i) none, iv i], 1, [.ro nl m [.ci .u64 l], .dead, .vec 26 (15 + i) [.cf .f64 (edgeL ++ wsL l i)]])) ?_ ?_
  · refine pE_Q (k := 1) ?_
    refine H.lf (f := pE 1) 26 (Sum.inr ([0, 1, 0, 1, 1], 2, [AV.sl 0 0 n cap, AV.sl (Nat.succ 0) 0 15 (some 15), AV.i IntKind.i64 0], 1, [AObj.ro nl m [Col.ci IntKind.u64 l], AObj.own 26 1 [AV.v (Value.float FloatKind.f64 (Int.toNat 18442240474082181120)), AV.v (Value.float FloatKind.f64 18442240474082181119), AV.v (Value.float FloatKind.f64 13830554455654793216), AV.v (Value.float FloatKind.f64 (Int.toNat 4503599627370496 ^^^ 2 ^ 63)), AV.v (Value.float FloatKind.f64 (Int.toNat 4503599627370495 ^^^ 2 ^ 63)), AV.v (Value.float FloatKind.f64 (Int.toNat 1 ^^^ 2 ^ 63)), AV.v (Value.float FloatKind.f64 (Int.toNat 9223372036854775808)), AV.v (Value.float FloatKind.f64 0), AV.v (Value.float FloatKind.f64 (Int.toNat 1)), AV.v (Value.float FloatKind.f64 (Int.toNat 4503599627370495)), AV.v (Value.float FloatKind.f64 (Int.toNat 4503599627370496)), AV.v (Value.float FloatKind.f64 4607182418800017408), AV.v (Value.float FloatKind.f64 9218868437227405311), AV.v (Value.float FloatKind.f64 (Int.toNat 9218868437227405312)), AV.v (Value.float FloatKind.f64 (Int.toNat 9221120237041090561))]])) (by kernel_rfl) ?_
    exact ⟨rfl, rfl, 30, by omega, .inl ⟨rfl, rfl⟩⟩
  · rintro mm _ (⟨hm, rfl⟩ | ⟨i, hl, hi, hn, hm, rfl⟩)
    · refine pL_Q (k := 1) ?_
      refine H.sd 1 (fun b => (b == true)) (0 < (↑n : Int)) (by kernel_rfl) (fun h1 => ?_) (fun h1 => ?_)
      ·
       refine H.kd 6 (fun b => b) (0 < (↑n : Int)) (by (first | assumption | omega | (simp <;> omega))) (by kernel_rfl) ?_
       refine H.kl 0 (fun b => b) (0) (m) (by (first | assumption | omega | (simp <;> omega))) (by kernel_rfl) ?_
       refine H.lf (f := pL 1) 14 (Sum.inl ([AV.sl 0 0 n cap, AV.sl 2 0 16 none, AV.i IntKind.i64 1], 1, [AObj.ro nl m [Col.ci IntKind.u64 l], AObj.dead, AObj.vec 26 16 [Col.cf FloatKind.f64 [18442240474082181120, 18442240474082181119, 13830554455654793216, 9227875636482146304, 9227875636482146303, 9223372036854775809, 9223372036854775808, 0, 1, 4503599627370495, 4503599627370496, 4607182418800017408, 9218868437227405311, 9218868437227405312, 9221120237041090561, Int.toNat (List.getD l 0 0)]]])) (by kernel_rfl) ?_
       first | exact ⟨29, by omega, .inr ⟨1, by omega, by omega, by omega, rfl, rfl⟩⟩ | exact hq0 (by omega)
      ·
       refine H.lf (f := pL 1) 4 (Sum.inr (Sum.inl (AV.sl 1 0 15 (some 15), [AObj.own 26 1 [AV.v (Value.float FloatKind.f64 18442240474082181120), AV.v (Value.float FloatKind.f64 18442240474082181119), AV.v (Value.float FloatKind.f64 13830554455654793216), AV.v (Value.float FloatKind.f64 9227875636482146304), AV.v (Value.float FloatKind.f64 9227875636482146303), AV.v (Value.float FloatKind.f64 9223372036854775809), AV.v (Value.float FloatKind.f64 9223372036854775808), AV.v (Value.float FloatKind.f64 0), AV.v (Value.float FloatKind.f64 1), AV.v (Value.float FloatKind.f64 4503599627370495), AV.v (Value.float FloatKind.f64 4503599627370496), AV.v (Value.float FloatKind.f64 4607182418800017408), AV.v (Value.float FloatKind.f64 9218868437227405311), AV.v (Value.float FloatKind.f64 9218868437227405312), AV.v (Value.float FloatKind.f64 9221120237041090561)]]))) (by kernel_rfl) ?_
       first | exact ⟨29, by omega, .inr ⟨1, by omega, by omega, by omega, rfl, rfl⟩⟩ | exact hq0 (by omega)
    · refine pL_Q (k := 1) ?_
      refine H.sd 1 (fun b => (b == true)) ((↑i : Int) < (↑n : Int)) (by kernel_rfl) (fun h1 => ?_) (fun h1 => ?_)
      ·
       refine H.sd 3 (fun b => b) ((↑i : Int) < 30) (by kernel_rfl) (fun h2 => ?_) (fun h2 => ?_)
       ·
        refine H.kd 2 (fun b => b) ((↑i : Int) < (↑n : Int)) (by (first | assumption | omega | (simp <;> omega))) (by kernel_rfl) ?_
        refine H.kl 0 (fun b => b) (0 + Int.toNat (↑i : Int)) (m) (by (first | assumption | omega | (simp <;> omega))) (by kernel_rfl) ?_
        refine H.kb 9 (fun b => b) (b := (Nat.ble (0 + (15 + i)) (15 + i))) (d := true) (by (first | assumption | omega | (simp <;> omega))) (by kernel_rfl) ?_
        refine H.kb 0 (fun b => b) (b := (Nat.blt 0 8 && Nat.ble ((15 + i + 1) * 8) 140737488355328)) (d := true) (by (first | assumption | omega | (simp <;> omega))) (by kernel_rfl) ?_
        refine H.kb 0 (fun b => b) (b := (Nat.beq (15 + i + 1) (15 + i + 1) && Nat.beq 1 1)) (d := true) (by (first | assumption | omega | (simp <;> omega))) (by kernel_rfl) ?_
        refine H.lf (f := pL 1) 2 (Sum.inl ([AV.sl 0 0 n cap, AV.sl 2 0 (15 + i + 1) none, AV.i IntKind.i64 (wr IntKind.i64 ((↑i : Int) + 1))], 1, [AObj.ro nl m [Col.ci IntKind.u64 l], AObj.dead, AObj.vec 26 (15 + i + 1) [Col.cf FloatKind.f64 (List.take (15 + i) (List.drop 0 (edgeL ++ wsL l i)) ++ [Int.toNat (List.getD l (0 + Int.toNat (↑i : Int)) 0)])]])) (by kernel_rfl) ?_
        first | exact fin i hl hi hn (.inl h1) | exact fin i hl hi hn (.inr h2) | exact ⟨30 - (i + 1), by omega, .inr ⟨i + 1, by omega, by omega, by omega, rfl, by rw [wr64 (by omega) (by omega), wsL_succ, List.drop_zero, List.take_of_length_le (by rw [List.length_append, wsL_len]; show 15 + i ≤ 15 + i; omega), show 0 + Int.toNat (i : Int) = i by omega, List.append_assoc]; rfl⟩⟩
       ·
        refine H.lf (f := pL 1) 1 (Sum.inr (Sum.inl (AV.sl 1 0 (15 + i) none, [AObj.vec 26 (15 + i) [Col.cf FloatKind.f64 (edgeL ++ wsL l i)]]))) (by kernel_rfl) ?_
        first | exact fin i hl hi hn (.inl h1) | exact fin i hl hi hn (.inr h2) | exact ⟨30 - (i + 1), by omega, .inr ⟨i + 1, by omega, by omega, by omega, rfl, by rw [wr64 (by omega) (by omega), wsL_succ, List.drop_zero, List.take_of_length_le (by rw [List.length_append, wsL_len]; show 15 + i ≤ 15 + i; omega), show 0 + Int.toNat (i : Int) = i by omega, List.append_assoc]; rfl⟩⟩
      ·
       refine H.lf (f := pL 1) 4 (Sum.inr (Sum.inl (AV.sl 1 0 (15 + i) none, [AObj.vec 26 (15 + i) [Col.cf FloatKind.f64 (edgeL ++ wsL l i)]]))) (by kernel_rfl) ?_
       first | exact fin i hl hi hn (.inl h1) | exact fin i hl hi hn (.inr h2) | exact ⟨30 - (i + 1), by omega, .inr ⟨i + 1, by omega, by omega, by omega, rfl, by rw [wr64 (by omega) (by omega), wsL_succ, List.drop_zero, List.take_of_length_le (by rw [List.length_append, wsL_len]; show 15 + i ≤ 15 + i; omega), show 0 + Int.toNat (i : Int) = i by omega, List.append_assoc]; rfl⟩⟩
noncomputable def k13 : List AV → List AObj → T An
  | [.sl 0 0 n _], [.ro _ m [.ci .u64 l]] => .br (decide (n ≤ m)) (.br (decide (0 < n)) (.ret (.sl 1 0 (15 + kkO n) none, [.vec 26 (15 + kkO n) [.cf .f64 (xsO l n)]])) (.ret (.sl 1 0 15 (some 15), [ownE]))) .fail
  | _, _ => .fail
abbrev Vb (S : Sp) (n : Nat) (g : List AV → List AObj → T An) : Prop := ∀ args objs Q, (g args objs).holds Q F0 → H (ev S 5 n args (memL objs.length objs)) (fun x => Q (resV objs.length x)) F0
theorem v13 : Vb Sx 13 k13 := by
  intro args objs Q h
  unfold k13 at h
  split at h
  · obtain ⟨h1, h2⟩ := br_ok h
    exact t13 (of_decide_eq_true h1) (fun e => h2.2 (decide_eq_false (by omega))) (fun e => h2.1 (decide_eq_true e))
  · exact h.elim
end Go.Proofs.TabR
