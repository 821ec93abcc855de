/- Lemmas about the evaluator of the code. -/
import Derived.Test.YthnabafmjhackaaDoorOrdR
import Derived.Test.YthnabafmjhackaaDoorArgFR
import Derived.Test.YthnabafmjhackaaDoorArgCR
set_option linter.all false
set_option linter.deprecated false
set_option maxRecDepth 1000000
set_option maxHeartbeats 4000000
namespace Go.Proofs.TabR
open Go Go.Eng
noncomputable def bstS (sg : Int) (a y : Nat) : Nat := if nanW y = true then a else if nanW a = true ∨ cmpV y a = sg then y else a
noncomputable def bstV (sg : Int) (w : List Nat) : Nat → Nat
  | 0 => 9221120237041090561
  | n + 1 => bstS sg (bstV sg w n) (w.getD n 0)
noncomputable def bstO (sg : Int) (w : List Nat) (n : Nat) : Nat := opq (bstV sg w n)
theorem bstO_eq (sg : Int) (w : List Nat) (n : Nat) : bstO sg w n = bstV sg w n := opq_eq _
theorem bst_zero (sg : Int) (w : List Nat) : Int.toNat 9221120237041090561 = bstO sg w 0 := by rw [bstO_eq]; rfl
theorem bst_succ (sg : Int) (w : List Nat) (n : Nat) : bstO sg w (n + 1) = bstS sg (bstO sg w n) (w.getD n 0) := by rw [bstO_eq, bstO_eq]; rfl
theorem bst_lt {sg : Int} {w : List Nat} (hw : ∀ j, w.getD j 0 < 18446744073709551616) (n : Nat) : bstO sg w n < 18446744073709551616 := by
  rw [bstO_eq]
  induction n with
  | zero => show 9221120237041090561 < _; decide
  | succ n ih =>
    show bstS sg (bstV sg w n) (w.getD n 0) < _
    unfold bstS
    have := hw n
    split
    · exact ih
    · split <;> assumption
theorem bst_nan {sg : Int} {w : List Nat} {n : Nat} (h : nanW (w.getD n 0) = true) : bstO sg w n = bstO sg w (n + 1) := by rw [bst_succ]; unfold bstS; rw [if_pos h]
theorem bst_new {sg : Int} {w : List Nat} {n : Nat} (h : nanW (w.getD n 0) = false) (h2 : nanW (bstO sg w n) = true) : w.getD n 0 = bstO sg w (n + 1) := by
  rw [bst_succ]; unfold bstS; rw [if_neg (by rw [h]; decide), if_pos (.inl h2)]
theorem bst_cmp {sg : Int} {w : List Nat} {n : Nat} (h : nanW (w.getD n 0) = false) (h2 : cmpO (w.getD n 0) (bstO sg w n) = sg) : w.getD n 0 = bstO sg w (n + 1) := by
  rw [cmpO_eq] at h2
  rw [bst_succ]; unfold bstS; rw [if_neg (by rw [h]; decide), if_pos (.inr h2)]
theorem bst_old {sg : Int} {w : List Nat} {n : Nat} (h : nanW (bstO sg w n) = false) (h2 : ¬ cmpO (w.getD n 0) (bstO sg w n) = sg) : bstO sg w n = bstO sg w (n + 1) := by
  rw [cmpO_eq] at h2
  rw [bst_succ]; unfold bstS
  split
  · rfl
  · rw [if_neg (by rw [h]; rintro (k | k); cases k; exact h2 k)]
theorem cmpV_m {x y : Nat} : cmpV x y < 0 ↔ cmpV x y = -1 := by unfold cmpV; repeat' split
                                                                all_goals omega
theorem cmpV_p {x y : Nat} : cmpV x y > 0 ↔ cmpV x y = 1 := by unfold cmpV; repeat' split
                                                               all_goals omega
theorem bits_num {x : Nat} (hx : x < 18446744073709551616) (h : nanW x = false) : bitsV x < 18446744073709551615 := by
  have := nanF.1 h
  by_cases k : x < 9223372036854775808
  · rw [bits_lo h k]; omega
  · rw [bits_hi h k]; omega
/-- The page's least one. -/
theorem lst_new {w : List Nat} {n : Nat} (h : nanW (w.getD n 0) = false) (h2 : cmpO (w.getD n 0) (bstO (-1) w n) < 0) : w.getD n 0 = bstO (-1) w (n + 1) := by
  rw [cmpO_eq] at h2
  exact bst_cmp h (by rw [cmpO_eq]; exact cmpV_m.1 h2)
theorem lst_old {w : List Nat} {n : Nat} (hw : ∀ j, w.getD j 0 < 18446744073709551616) (h : nanW (w.getD n 0) = false) (h2 : ¬ cmpO (w.getD n 0) (bstO (-1) w n) < 0) : bstO (-1) w n = bstO (-1) w (n + 1) := by
  have hn : nanW (bstO (-1) w n) = false := by
    cases hh : nanW (bstO (-1) w n) with
    | false => rfl
    | true =>
      refine absurd ?_ h2
      rw [cmpO_eq, cmp_lt, bits_nan hh]
      exact bits_num (hw n) h
  exact bst_old hn fun k => h2 (by rw [k]; decide)
theorem mst_new {w : List Nat} {n : Nat} (h : nanW (w.getD n 0) = false) (h2 : cmpO (w.getD n 0) (bstO 1 w n) > 0) : w.getD n 0 = bstO 1 w (n + 1) := by
  rw [cmpO_eq] at h2
  exact bst_cmp h (by rw [cmpO_eq]; exact cmpV_p.1 h2)
theorem mst_old {w : List Nat} {n : Nat} (hn : nanW (bstO 1 w n) = false) (h2 : ¬ cmpO (w.getD n 0) (bstO 1 w n) > 0) : bstO 1 w n = bstO 1 w (n + 1) :=
  bst_old hn fun k => h2 (by rw [k]; decide)
end Go.Proofs.TabR
