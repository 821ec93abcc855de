/- Lemmas about the evaluator of the code. -/
import Derived.Test.YthnabafmjhackaaDoorWinR
set_option linter.all false
set_option linter.deprecated false
set_option maxRecDepth 1000000
set_option maxHeartbeats 4000000
namespace Go.Eng
open Go
/-! ## Halves and sums of two negative floats -/
theorem word_ng {s : Bool} {r : Nat} (h : r ≤ 9218868437227405312) : ngW ((FloatKind.format .f64).word s r) = s := by
  have e : (FloatKind.format .f64).word s r = if s then 9223372036854775808 + r else r := by kernel_rfl
  rw [e]; unfold ngW
  cases s
  · simp; omega
  · simp; omega
theorem nearest_ng (s : Bool) (m : Nat) (p : Int) : ngW ((FloatKind.format .f64).nearest s m p) = s := by
  unfold Ieee.Format.nearest
  split
  · exact word_ng (by omega)
  · refine word_ng ?_
    have e : (FloatKind.format .f64).infRung = 9218868437227405312 := by kernel_rfl
    simp only [e]
    exact Nat.min_le_right _ _
theorem write_ng (s : Bool) (m : Nat) (p : Int) : ngW ((FloatKind.format .f64).write (.number s m p)) = s := nearest_ng s m p
theorem write_infng (s : Bool) : ngW ((FloatKind.format .f64).write (.infinity s)) = s := by
  have e : (FloatKind.format .f64).write (.infinity s) = (FloatKind.format .f64).word s 9218868437227405312 := by kernel_rfl
  rw [e]; exact word_ng (by omega)
theorem half_some {x : Nat} (hx : nanW x = false) : floatBits .quo .f64 x 4611686018427387904 = some (divF x 4611686018427387904) ∧ nanW (divF x 4611686018427387904) = false ∧ ngW (divF x 4611686018427387904) = ngW x ∧ divF x 4611686018427387904 < 18446744073709551616 := by
  have h2 : numW 4611686018427387904 := by unfold numW; omega
  have hm : magW 4611686018427387904 ≠ 0 := by decide
  have hn : ngW 4611686018427387904 = false := by decide
  have go : ∀ d : Ieee.Datum, (FloatKind.format .f64).div x 4611686018427387904 = some ((FloatKind.format .f64).write d) → nanW ((FloatKind.format .f64).write d) = false → ngW ((FloatKind.format .f64).write d) = ngW x →
      floatBits .quo .f64 x 4611686018427387904 = some (divF x 4611686018427387904) ∧ nanW (divF x 4611686018427387904) = false ∧ ngW (divF x 4611686018427387904) = ngW x ∧ divF x 4611686018427387904 < 18446744073709551616 := by
    intro d h h3 h4
    have h : floatBits .quo .f64 x 4611686018427387904 = some ((FloatKind.format .f64).write d) := h
    unfold divF
    rw [h]
    exact ⟨rfl, h3, h4, write_lt64 d⟩
  rcases cases_w x with h | h | h
  · refine go (.number (ngW x ^^ false) _ _) (by unfold Ieee.Format.div; rw [read_num h, read_num h2, hn]; simp only [Ieee.Datum.quotient]; rw [if_neg hm]; rfl) (write_num _ _ _) (by rw [write_ng]; simp)
  · refine go (.infinity (ngW x ^^ false)) (by unfold Ieee.Format.div; rw [read_inf h, read_num h2, hn]; rfl) (write_inf _) (by rw [write_infng]; simp)
  · rw [h] at hx; cases hx
theorem sum_some {x y : Nat} (hx : nanW x = false) (hy : nanW y = false) (hs : ngW x = ngW y) : (floatBits .add .f64 x y).isSome = true ∧ addF x y < 18446744073709551616 := by
  have go : ∀ d : Ieee.Datum, (FloatKind.format .f64).add x y = some ((FloatKind.format .f64).write d) → (floatBits .add .f64 x y).isSome = true ∧ addF x y < 18446744073709551616 := by
    intro d h
    have h : floatBits .add .f64 x y = some ((FloatKind.format .f64).write d) := h
    unfold addF
    rw [h]
    exact ⟨rfl, write_lt64 d⟩
  rcases cases_w x with h | h | h
  · rcases cases_w y with k | k | k
    · exact go _ (by unfold Ieee.Format.add; rw [read_num h, read_num k]; rfl)
    · exact go _ (by unfold Ieee.Format.add; rw [read_num h, read_inf k]; rfl)
    · rw [k] at hy; cases hy
  · rcases cases_w y with k | k | k
    · exact go _ (by unfold Ieee.Format.add; rw [read_inf h, read_num k]; rfl)
    · exact go (.infinity (ngW x)) (by unfold Ieee.Format.add; rw [read_inf h, read_inf k]; simp only [Ieee.Datum.sum]; rw [if_pos hs]; rfl)
    · rw [k] at hy; cases hy
  · rw [h] at hx; cases hx
end Go.Eng
