/- Lemmas about the evaluator of the code. -/
import Derived.Test.YtiokhipgpfeoeaaFlt
set_option linter.all false
set_option linter.deprecated false
set_option autoImplicit false
set_option maxRecDepth 100000
namespace Go.Eng
open Go

/-! ## What a rung stands for, in units of the least float above zero -/
def Vr (r : Nat) : Nat := if r < 4503599627370496 then r else (4503599627370496 + r % 4503599627370496) * 2 ^ (r / 4503599627370496 - 1)
theorem Vr_step (r : Nat) : Vr r < Vr (r + 1) := by
  unfold Vr
  by_cases h : r < 4503599627370496
  · rw [if_pos h]
    by_cases h1 : r + 1 < 4503599627370496
    · rw [if_pos h1]; omega
    · rw [if_neg h1]
      have e : r + 1 = 4503599627370496 := by omega
      rw [e]; simp; omega
  · rw [if_neg h, if_neg (by omega)]
    generalize hq : r / 4503599627370496 = q
    generalize hf : r % 4503599627370496 = f
    have hr : r = q * 4503599627370496 + f := by omega
    have hf1 : f < 4503599627370496 := by omega
    have hq1 : 1 ≤ q := by omega
    have hp : 0 < 2 ^ (q - 1) := Nat.two_pow_pos _
    by_cases h1 : f + 1 < 4503599627370496
    · have e1 : (r + 1) / 4503599627370496 = q := by omega
      have e2 : (r + 1) % 4503599627370496 = f + 1 := by omega
      rw [e1, e2]
      exact Nat.mul_lt_mul_of_pos_right (by omega) hp
    · have e1 : (r + 1) / 4503599627370496 = q + 1 := by omega
      have e2 : (r + 1) % 4503599627370496 = 0 := by omega
      rw [e1, e2]
      have e3 : 2 ^ (q + 1 - 1) = 2 * 2 ^ (q - 1) := by rw [← Nat.pow_succ']; congr 1; omega
      rw [e3, Nat.add_zero, ← Nat.mul_assoc]
      exact Nat.mul_lt_mul_of_pos_right (by omega) hp
theorem Vr_lt {r s : Nat} (h : r < s) : Vr r < Vr s := by
  induction s with
  | zero => omega
  | succ s ih =>
    rcases Nat.lt_or_ge r s with h1 | h1
    · exact Nat.lt_trans (ih h1) (Vr_step s)
    · obtain rfl : r = s := by omega
      exact Vr_step r
theorem Vr_le {r s : Nat} (h : r ≤ s) : Vr r ≤ Vr s := by
  rcases Nat.lt_or_ge r s with h1 | h1
  · exact Nat.le_of_lt (Vr_lt h1)
  · obtain rfl : r = s := by omega
    exact Nat.le_refl _
theorem Vr_lt_iff {r s : Nat} : Vr r < Vr s ↔ r < s := by
  refine ⟨fun h => ?_, Vr_lt⟩
  rcases Nat.lt_or_ge r s with h1 | h1
  · exact h1
  · have := Vr_le h1; omega
theorem Vr_le_iff {r s : Nat} : Vr r ≤ Vr s ↔ r ≤ s := by
  have := Vr_lt_iff (r := s) (s := r); omega
theorem Vr_zero : Vr 0 = 0 := by decide
/-- The place of a word's number, above the least one. -/
def upW (x : Nat) : Nat := if x % 9223372036854775808 < 4503599627370496 then 0 else x % 9223372036854775808 / 4503599627370496 - 1
theorem plW_up (x : Nat) : plW x = -1074 + (upW x : Int) := by
  unfold plW upW; split
  · rfl
  · rfl
theorem mag_up (x : Nat) : magW x * 2 ^ upW x = Vr (x % 9223372036854775808) := by
  unfold magW upW Vr; split
  · simp
  · rfl
/-- The number of a word, with its sign. -/
def svW (x : Nat) : Int := if ngW x = true then -(Vr (x % 9223372036854775808) : Int) else (Vr (x % 9223372036854775808) : Int)
theorem signed_eq (s : Bool) (m k : Nat) : Ieee.signed s m k = if s = true then -((m * 2 ^ k : Nat) : Int) else ((m * 2 ^ k : Nat) : Int) := by
  unfold Ieee.signed
  rw [Nat.shiftLeft_eq]
theorem cmp_scale (a b : Int) (k : Nat) : compare (a * (2 ^ k : Nat)) (b * (2 ^ k : Nat)) = compare a b := by
  have hk : (0 : Int) < ((2 ^ k : Nat) : Int) := by have := Nat.two_pow_pos k; exact_mod_cast this
  rcases Int.lt_trichotomy a b with h | h | h
  · rw [Int.compare_eq_lt.2 h, Int.compare_eq_lt.2 (Int.mul_lt_mul_of_pos_right h hk)]
  · subst h; rw [cmp_selfI, cmp_selfI]
  · rw [Int.compare_eq_gt.2 h, Int.compare_eq_gt.2 (Int.mul_lt_mul_of_pos_right h hk)]
theorem order_num (s t : Bool) (m n a b : Nat) : Ieee.Datum.order (.number s m (-1074 + (a : Int))) (.number t n (-1074 + (b : Int))) =
    some (compare (if s = true then -((m * 2 ^ a : Nat) : Int) else ((m * 2 ^ a : Nat) : Int)) (if t = true then -((n * 2 ^ b : Nat) : Int) else ((n * 2 ^ b : Nat) : Int))) := by
  unfold Ieee.Datum.order
  simp only [signed_eq]
  have e : min (-1074 + (a : Int)) (-1074 + (b : Int)) = -1074 + ((min a b : Nat) : Int) := by omega
  rw [e]
  have e1 : ((-1074 + (a : Int)) - (-1074 + ((min a b : Nat) : Int))).toNat = a - min a b := by omega
  have e2 : ((-1074 + (b : Int)) - (-1074 + ((min a b : Nat) : Int))).toNat = b - min a b := by omega
  rw [e1, e2, ← cmp_scale _ _ (min a b)]
  have p1 : m * 2 ^ (a - min a b) * 2 ^ (min a b) = m * 2 ^ a := by rw [Nat.mul_assoc, ← Nat.pow_add]; congr 2; omega
  have p2 : n * 2 ^ (b - min a b) * 2 ^ (min a b) = n * 2 ^ b := by rw [Nat.mul_assoc, ← Nat.pow_add]; congr 2; omega
  congr 2
  · split
    · rw [Int.neg_mul, ← Int.natCast_mul, p1]
    · rw [← Int.natCast_mul, p1]
  · split
    · rw [Int.neg_mul, ← Int.natCast_mul, p2]
    · rw [← Int.natCast_mul, p2]
theorem inf_mod {x : Nat} (h : x % 9223372036854775808 = 9218868437227405312) : svW x = if ngW x = true then -((4503599627370496 * 2 ^ 2046 : Nat) : Int) else ((4503599627370496 * 2 ^ 2046 : Nat) : Int) := by
  unfold svW
  rw [h]
  have : Vr 9218868437227405312 = 4503599627370496 * 2 ^ 2046 := by decide +kernel
  rw [this]
theorem num_lt {x : Nat} (h : numW x) : Vr (x % 9223372036854775808) < 4503599627370496 * 2 ^ 2046 := by
  have : Vr 9218868437227405312 = 4503599627370496 * 2 ^ 2046 := by decide +kernel
  rw [← this]; exact Vr_lt h
theorem sv_num {x : Nat} : svW x = if ngW x = true then -((magW x * 2 ^ upW x : Nat) : Int) else ((magW x * 2 ^ upW x : Nat) : Int) := by
  unfold svW; rw [mag_up]
/-- How two floats stand. -/
theorem fo_sv {x y : Nat} (hx : nanW x = false) (hy : nanW y = false) : fo x y = some (compare (svW x) (svW y)) := by
  unfold fo Ieee.Format.order
  have hI : (0 : Int) < ((4503599627370496 * 2 ^ 2046 : Nat) : Int) := by decide +kernel
  rcases cases_w x with h | h | h
  · rcases cases_w y with h' | h' | h'
    · rw [read_num h, read_num h', plW_up, plW_up, order_num, sv_num, sv_num]
    · rw [read_num h, read_inf h', inf_mod h']
      have hl := num_lt h
      unfold svW
      generalize Vr (x % 9223372036854775808) = v at *
      generalize 4503599627370496 * 2 ^ 2046 = I at *
      simp only [Ieee.Datum.order]
      congr 1
      cases ngW y with
      | true => simp only [if_true]; symm; rw [Int.compare_eq_gt]; split <;> omega
      | false => simp only [Bool.false_eq_true, if_false]; symm; rw [Int.compare_eq_lt]; split <;> omega
    · rw [h'] at hy; cases hy
  · rcases cases_w y with h' | h' | h'
    · rw [read_inf h, read_num h', inf_mod h]
      have hl := num_lt h'
      unfold svW
      generalize Vr (y % 9223372036854775808) = v at *
      generalize 4503599627370496 * 2 ^ 2046 = I at *
      simp only [Ieee.Datum.order]
      congr 1
      cases ngW x with
      | true => simp only [if_true]; symm; rw [Int.compare_eq_lt]; split <;> omega
      | false => simp only [Bool.false_eq_true, if_false]; symm; rw [Int.compare_eq_gt]; split <;> omega
    · rw [read_inf h, read_inf h', inf_mod h, inf_mod h']
      generalize 4503599627370496 * 2 ^ 2046 = I at *
      simp only [Ieee.Datum.order]
      congr 1
      cases ngW x <;> cases ngW y
      · rw [cmp_selfI]; rfl
      · simp only [Bool.false_eq_true, if_false, if_true]; symm; exact Int.compare_eq_gt.2 (by omega)
      · simp only [Bool.false_eq_true, if_false, if_true]; symm; exact Int.compare_eq_lt.2 (by omega)
      · simp only [if_true]; rw [cmp_selfI]; rfl
    · rw [h'] at hy; cases hy
  · rw [h] at hx; cases hx
end Go.Eng
