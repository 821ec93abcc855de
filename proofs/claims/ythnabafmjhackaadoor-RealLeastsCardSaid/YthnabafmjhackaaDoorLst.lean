/- Lemmas about the evaluator of the code. -/
import Derived.Test.YthnabafmjhackaaDoorBstR
import Derived.Test.YthnabafmjhackaaDoorArgGR
set_option linter.all false
set_option linter.deprecated false
set_option maxRecDepth 1000000
set_option maxHeartbeats 4000000
namespace Go.Proofs.TabR
open Go Go.Eng
theorem bleT {a b : Nat} (h : a ≤ b) : Nat.ble a b = true := Nat.ble_eq_true_of_le h
theorem ble8 {a : Nat} (h : a ≤ 1000) : (Nat.blt 0 8 && Nat.ble (a * 8) 140737488355328) = true := by rw [bleT (show a * 8 ≤ 140737488355328 by omega)]; rfl
theorem beq8 (a : Nat) : (Nat.beq a a && Nat.beq 1 1) = true := by rw [Nat.beq_refl]; rfl
theorem beq0 {a : Nat} (h : 0 < a) : Nat.beq a 0 = false := by cases a with
  | zero => exact absurd h (by decide)
  | succ a => rfl
theorem beq1 {a : Nat} (h : a = 0) : Nat.beq a 0 = true := by rw [h]; rfl
theorem wr_sub {n i : Nat} (h : i ≤ n) (hn : n ≤ 1000) : wr .i64 ((n : Int) - (i : Int)) = ((n - i : Nat) : Int) := by rw [wr64 (by omega) (by omega)]; omega
theorem xs_mem {l : List Int} {n : Nat} (h : ∀ x ∈ l, 0 ≤ x ∧ x < 18446744073709551616) : ∀ x ∈ xsO l n, x < 18446744073709551616 := by
  intro x hx
  obtain ⟨j, hj, e⟩ := List.getElem_of_mem hx
  have := xs_lt (n := n) h j
  rw [List.getD_eq_getElem?_getD, List.getElem?_eq_getElem hj] at this
  rw [← e]; exact this
theorem okT {w : List Nat} {m r : Nat} (h : m ≤ 1000) (hw : ∀ x ∈ w, x < 18446744073709551616) : wOk m m (List.take m (List.drop r w)) :=
  ⟨Nat.le_refl _, h, fun x hx => hw x (List.mem_of_mem_drop (List.mem_of_mem_take hx))⟩
theorem getD_part {w : List Nat} {m r i : Nat} (h : i < m) : (List.take m (List.drop r w)).getD i 0 = w.getD (r + i) 0 := by
  rw [List.getD_eq_getElem?_getD, List.getD_eq_getElem?_getD, List.getElem?_take_of_lt h, List.getElem?_drop]
end Go.Proofs.TabR
