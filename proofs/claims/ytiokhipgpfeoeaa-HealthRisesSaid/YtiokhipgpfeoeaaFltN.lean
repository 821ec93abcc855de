/- Lemmas about the evaluator of the code. -/
import Derived.Test.YtiokhipgpfeoeaaFltV
set_option linter.all false
set_option linter.deprecated false
set_option autoImplicit false
set_option maxRecDepth 100000
namespace Go.Eng
open Go

/-! ## Rounding -/
/-- Half up to even: n over 2^d. -/
def rhe (n d : Nat) : Nat := n / 2 ^ d + (if 2 ^ d < 2 * (n % 2 ^ d) ∨ (2 ^ d = 2 * (n % 2 ^ d) ∧ n / 2 ^ d % 2 = 1) then 1 else 0)
theorem cut_even (neg : Bool) (n d : Nat) : Ieee.Toward.even.cut neg n d = rhe n d := by
  unfold Ieee.Toward.cut rhe
  simp only [Nat.one_shiftLeft]
  rcases Nat.le_total d (n.log2 + 2) with h | h
  · rw [Nat.min_eq_left h]
    congr 1
    by_cases h1 : 2 ^ d < 2 * (n % 2 ^ d)
    · simp [h1]
    · by_cases h2 : 2 ^ d = 2 * (n % 2 ^ d)
      · by_cases h3 : n / 2 ^ d % 2 = 1
        · simp [h2.symm, h3]
        · have h3' : n / 2 ^ d % 2 = 0 := by omega
          simp [h2.symm, h3']
      · have : (2 ^ d == 2 * (n % 2 ^ d)) = false := by simpa using h2
        simp [h1, h2, this]
  · rw [Nat.min_eq_right h]
    have hn : n < 2 ^ (n.log2 + 1) := Nat.lt_log2_self
    have hp : 2 ^ (n.log2 + 2) = 2 * 2 ^ (n.log2 + 1) := by rw [show n.log2 + 2 = n.log2 + 1 + 1 by omega, Nat.pow_succ]; omega
    have hp2 : 2 ^ (n.log2 + 2) ≤ 2 ^ d := Nat.pow_le_pow_right (by omega) h
    have e1 : n / 2 ^ (n.log2 + 2) = 0 := Nat.div_eq_of_lt (by omega)
    have e2 : n % 2 ^ (n.log2 + 2) = n := Nat.mod_eq_of_lt (by omega)
    have e3 : n / 2 ^ d = 0 := Nat.div_eq_of_lt (by omega)
    have e4 : n % 2 ^ d = n := Nat.mod_eq_of_lt (by omega)
    rw [e1, e2, e3, e4]
    have a1 : ¬ 2 ^ (n.log2 + 2) < 2 * n := by omega
    have a2 : ¬ 2 ^ d < 2 * n := by omega
    simp [a1, a2]
theorem rhe_zero (n : Nat) : rhe n 0 = n := by
  unfold rhe
  have : n % 2 ^ 0 = 0 := by simp [Nat.mod_one]
  rw [this]; simp
theorem rhe_mono {n m d : Nat} (h : n ≤ m) : rhe n d ≤ rhe m d := by
  unfold rhe
  have hp := Nat.two_pow_pos d
  generalize 2 ^ d = g at *
  have h1 : n / g ≤ m / g := Nat.div_le_div_right h
  have hn := Nat.div_add_mod n g
  have hm := Nat.div_add_mod m g
  have hnr := Nat.mod_lt n hp
  have hmr := Nat.mod_lt m hp
  rcases Nat.lt_or_ge (n / g) (m / g) with h2 | h2
  · split <;> split <;> omega
  · have e : n / g = m / g := by omega
    rw [e] at hn ⊢
    have hr : n % g ≤ m % g := by omega
    split
    · rename_i hc
      rw [if_pos]
      · exact Nat.le_refl _
      · rcases hc with hc | ⟨hc, hc2⟩
        · left; omega
        · rcases Nat.lt_or_ge (n % g) (m % g) with h3 | h3
          · left; omega
          · right; exact ⟨by omega, hc2⟩
    · omega
theorem rhe_two (n d : Nat) : rhe (2 * n) (d + 1) = rhe n d := by
  unfold rhe
  have hp := Nat.two_pow_pos d
  have e : 2 ^ (d + 1) = 2 * 2 ^ d := by rw [Nat.pow_succ]; omega
  rw [e]
  generalize 2 ^ d = g at *
  have e1 : 2 * n / (2 * g) = n / g := Nat.mul_div_mul_left _ _ (by omega)
  have e2 : 2 * n % (2 * g) = 2 * (n % g) := Nat.mul_mod_mul_left ..
  rw [e1, e2]
  congr 1
  have : (2 * g < 2 * (2 * (n % g)) ∨ 2 * g = 2 * (2 * (n % g)) ∧ n / g % 2 = 1) ↔ (g < 2 * (n % g) ∨ g = 2 * (n % g) ∧ n / g % 2 = 1) := by omega
  simp only [this]
/-- The rung nearest to m times 2^p. -/
def nr (m : Nat) (p : Int) : Nat := if m = 0 then 0 else
  min ((max (p + m.log2 - 52) (-1074) + 1074).toNat * 4503599627370496 + rhe (m * 2 ^ (p - max (p + m.log2 - 52) (-1074)).toNat) (max (p + m.log2 - 52) (-1074) - p).toNat) 9218868437227405312
theorem nearest_nr (s : Bool) (m : Nat) (p : Int) : (FloatKind.format .f64).nearest s m p = if s = true then 9223372036854775808 + nr m p else nr m p := by
  have e0 : (FloatKind.format .f64).fractionBits = 52 := rfl
  have e1 : (FloatKind.format .f64).leastPlace = -1074 := by kernel_rfl
  have e2 : (FloatKind.format .f64).binade = 4503599627370496 := by kernel_rfl
  have e3 : (FloatKind.format .f64).infRung = 9218868437227405312 := by kernel_rfl
  have e4 : (FloatKind.format .f64).signWeight = 9223372036854775808 := by kernel_rfl
  unfold Ieee.Format.nearest nr Ieee.Format.word
  rw [e0, e1, e2, e3, e4]
  split
  · rfl
  · simp only [cut_even, Nat.shiftLeft_eq]
    have : ∀ x : Int, x - (-1074) = x + 1074 := by intro x; omega
    simp only [this]
    rfl
theorem log2_two {m : Nat} (h : m ≠ 0) : (2 * m).log2 = m.log2 + 1 := by
  rw [Nat.log2_two_mul h]
theorem nr_two (m : Nat) (p : Int) : nr (2 * m) (p - 1) = nr m p := by
  unfold nr
  by_cases h : m = 0
  · rw [if_pos h, if_pos (by omega)]
  · rw [if_neg h, if_neg (by omega), log2_two h]
    have e : p - 1 + ((m.log2 + 1 : Nat) : Int) - 52 = p + m.log2 - 52 := by omega
    rw [e]
    generalize max (p + (m.log2 : Int) - 52) (-1074) = last
    congr 2
    by_cases h1 : last ≤ p - 1
    · have a1 : (p - last).toNat = (p - 1 - last).toNat + 1 := by omega
      have a2 : (last - (p - 1)).toNat = 0 := by omega
      have a3 : (last - p).toNat = 0 := by omega
      rw [a1, a2, a3, rhe_zero, rhe_zero, Nat.pow_succ, Nat.mul_comm 2 m, Nat.mul_assoc, Nat.mul_comm 2 (2 ^ _)]
    · have a1 : (p - last).toNat = 0 := by omega
      have a2 : (p - 1 - last).toNat = 0 := by omega
      have a3 : (last - (p - 1)).toNat = (last - p).toNat + 1 := by omega
      rw [a1, a2, a3, Nat.pow_zero, Nat.mul_one, Nat.mul_one, rhe_two]
theorem nr_pow (k m : Nat) (p : Int) : nr (m * 2 ^ k) (p - k) = nr m p := by
  induction k with
  | zero =>
    have e : p - ((0 : Nat) : Int) = p := by omega
    rw [e, Nat.pow_zero, Nat.mul_one]
  | succ k ih =>
    rw [show m * 2 ^ (k + 1) = 2 * (m * 2 ^ k) by rw [Nat.pow_succ, ← Nat.mul_assoc, Nat.mul_comm _ 2], show p - ((k + 1 : Nat) : Int) = p - k - 1 by omega, nr_two, ih]
/-- What is kept has 53 digits at most, and 53 but at the least place. -/
theorem kept_le {m : Nat} {p last : Int} (hm : m ≠ 0) (h : p + m.log2 - 52 ≤ last) : rhe (m * 2 ^ (p - last).toNat) (last - p).toNat ≤ 9007199254740992 := by
  have hlt : m < 2 ^ (m.log2 + 1) := Nat.lt_log2_self
  by_cases h1 : last ≤ p
  · have a1 : (last - p).toNat = 0 := by omega
    rw [a1, rhe_zero]
    have : m * 2 ^ (p - last).toNat ≤ 2 ^ (m.log2 + 1) * 2 ^ (p - last).toNat := Nat.mul_le_mul_right _ (Nat.le_of_lt hlt)
    rw [← Nat.pow_add] at this
    have h2 : 2 ^ (m.log2 + 1 + (p - last).toNat) ≤ 2 ^ 53 := Nat.pow_le_pow_right (by omega) (by omega)
    have e53 : (2 : Nat) ^ 53 = 9007199254740992 := by decide
    omega
  · have a1 : (p - last).toNat = 0 := by omega
    rw [a1, Nat.pow_zero, Nat.mul_one]
    have h2 : m.log2 + 1 ≤ (last - p).toNat + 53 := by omega
    have h3 : m ≤ 2 ^ 53 * 2 ^ (last - p).toNat := by
      have h5 := Nat.pow_le_pow_right (n := 2) (by omega) h2
      have h6 : 2 ^ ((last - p).toNat + 53) = 2 ^ (last - p).toNat * 2 ^ 53 := Nat.pow_add ..
      rw [Nat.mul_comm, ← h6]; omega
    have := rhe_mono (d := (last - p).toNat) h3
    have e : rhe (2 ^ 53 * 2 ^ (last - p).toNat) (last - p).toNat = 9007199254740992 := by
      unfold rhe
      rw [Nat.mul_div_cancel _ (Nat.two_pow_pos _), Nat.mul_mod_left]
      have hp := Nat.two_pow_pos (last - p).toNat
      rw [if_neg]
      generalize 2 ^ (last - p).toNat = g at *
      omega
    omega
theorem kept_ge {m : Nat} {p last : Int} (hm : m ≠ 0) (h : last = p + m.log2 - 52) : 4503599627370496 ≤ rhe (m * 2 ^ (p - last).toNat) (last - p).toNat := by
  have hge : 2 ^ m.log2 ≤ m := Nat.log2_self_le hm
  by_cases h1 : last ≤ p
  · have a1 : (last - p).toNat = 0 := by omega
    rw [a1, rhe_zero]
    have : 2 ^ m.log2 * 2 ^ (p - last).toNat ≤ m * 2 ^ (p - last).toNat := Nat.mul_le_mul_right _ hge
    rw [← Nat.pow_add, show m.log2 + (p - last).toNat = 52 by omega] at this
    have e52 : (2 : Nat) ^ 52 = 4503599627370496 := by decide
    omega
  · have a1 : (p - last).toNat = 0 := by omega
    rw [a1, Nat.pow_zero, Nat.mul_one]
    have e : m.log2 = 52 + (last - p).toNat := by omega
    rw [e, Nat.pow_add] at hge
    unfold rhe
    have : 4503599627370496 ≤ m / 2 ^ (last - p).toNat := by
      rw [Nat.le_div_iff_mul_le (Nat.two_pow_pos _)]
      exact hge
    omega
theorem nr_mono {m n : Nat} (h : m ≤ n) (p : Int) : nr m p ≤ nr n p := by
  unfold nr
  by_cases hm : m = 0
  · rw [if_pos hm]; omega
  · have hn : n ≠ 0 := by omega
    rw [if_neg hm, if_neg hn]
    have hl : m.log2 ≤ n.log2 := by
      rw [Nat.le_log2 hn]; exact Nat.le_trans (Nat.log2_self_le hm) h
    have key : (max (p + (m.log2 : Int) - 52) (-1074) + 1074).toNat * 4503599627370496 + rhe (m * 2 ^ (p - max (p + (m.log2 : Int) - 52) (-1074)).toNat) (max (p + (m.log2 : Int) - 52) (-1074) - p).toNat ≤
        (max (p + (n.log2 : Int) - 52) (-1074) + 1074).toNat * 4503599627370496 + rhe (n * 2 ^ (p - max (p + (n.log2 : Int) - 52) (-1074)).toNat) (max (p + (n.log2 : Int) - 52) (-1074) - p).toNat := by
      generalize hA : max (p + (m.log2 : Int) - 52) (-1074) = A
      generalize hB : max (p + (n.log2 : Int) - 52) (-1074) = B
      by_cases hAB : A = B
      · subst hAB
        exact Nat.add_le_add_left (rhe_mono (Nat.mul_le_mul_right _ h)) _
      · have h1 : A < B := by omega
        have k1 := kept_le (m := m) (p := p) (last := A) hm (by omega)
        have k2 := kept_ge (m := n) (p := p) (last := B) hn (by omega)
        have h2 : (A + 1074).toNat + 1 ≤ (B + 1074).toNat := by omega
        omega
    omega
/-- What stands on a rung is its own nearest one. -/
theorem nr_exact {r : Nat} (h : r ≤ 9218868437227405312) : nr (Vr r) (-1074) = r := by
  unfold nr
  by_cases h0 : r = 0
  · subst h0; rfl
  · have hv : Vr r ≠ 0 := by have := Vr_lt (r := 0) (s := r) (by omega); rw [Vr_zero] at this; omega
    rw [if_neg hv]
    by_cases h1 : r < 4503599627370496
    · have e : Vr r = r := if_pos h1
      rw [e]
      have hl : r.log2 < 52 := by rw [Nat.log2_lt h0]; exact h1
      rw [show max (-1074 + (r.log2 : Int) - 52) (-1074) = -1074 by omega]
      simp only [Int.sub_self, Int.toNat_zero, Nat.pow_zero, Nat.mul_one, rhe_zero]
      show min ((-1074 + 1074 : Int).toNat * 4503599627370496 + r) 9218868437227405312 = r
      simp; omega
    · have e : Vr r = (4503599627370496 + r % 4503599627370496) * 2 ^ (r / 4503599627370496 - 1) := if_neg h1
      rw [e]
      generalize hq : r / 4503599627370496 = q
      generalize hf : r % 4503599627370496 = f
      have hr : r = q * 4503599627370496 + f := by omega
      have hf1 : f < 4503599627370496 := by omega
      obtain ⟨k, rfl⟩ : ∃ k, q = k + 1 := ⟨q - 1, by omega⟩
      rw [Nat.add_sub_cancel]
      have hm : 4503599627370496 + f ≠ 0 := by omega
      have hl : ((4503599627370496 + f) * 2 ^ k).log2 = 52 + k := by
        rw [Nat.log2_eq_iff (Nat.mul_ne_zero hm (Nat.ne_of_gt (Nat.two_pow_pos k)))]
        have hp := Nat.two_pow_pos k
        have e52 : (2 : Nat) ^ 52 = 4503599627370496 := by decide
        have e53 : (2 : Nat) ^ 53 = 9007199254740992 := by decide
        have e1 : 2 ^ (52 + k) = 4503599627370496 * 2 ^ k := by rw [Nat.pow_add, e52]
        have e2 : 2 ^ (52 + k + 1) = 9007199254740992 * 2 ^ k := by rw [show 52 + k + 1 = 53 + k by omega, Nat.pow_add, e53]
        rw [e1, e2]
        exact ⟨Nat.mul_le_mul_right _ (by omega), Nat.mul_lt_mul_of_pos_right (by omega) hp⟩
      rw [hl, show max (-1074 + ((52 + k : Nat) : Int) - 52) (-1074) = -1074 + (k : Int) by omega]
      have a1 : (-1074 - (-1074 + (k : Int))).toNat = 0 := by omega
      have a2 : (-1074 + (k : Int) - -1074).toNat = k := by omega
      have a3 : (-1074 + (k : Int) + 1074).toNat = k := by omega
      rw [a1, a2, a3, Nat.pow_zero, Nat.mul_one]
      have e5 : rhe ((4503599627370496 + f) * 2 ^ k) k = 4503599627370496 + f := by
        unfold rhe
        rw [Nat.mul_div_cancel _ (Nat.two_pow_pos _), Nat.mul_mod_left]
        have hp := Nat.two_pow_pos k
        rw [if_neg]
        · omega
        · generalize 2 ^ k = g at *; omega
      have h9 : k * 4503599627370496 + (4503599627370496 + f) = r := by rw [hr, Nat.add_mul, Nat.one_mul, Nat.add_assoc]
      rw [e5, h9]; exact Nat.min_eq_left h
theorem nr_le_of {m r : Nat} (h : m ≤ Vr r) (hr : r ≤ 9218868437227405312) : nr m (-1074) ≤ r := by
  have := nr_mono h (-1074); rwa [nr_exact hr] at this
theorem nr_ge_of {m r : Nat} (h : Vr r ≤ m) (hr : r ≤ 9218868437227405312) : r ≤ nr m (-1074) := by
  have := nr_mono h (-1074); rwa [nr_exact hr] at this
end Go.Eng
