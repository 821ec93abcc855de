/- Floats from 0 to 1: what is asked of a health that is noted again and again; each lemma names its conditions. -/
import Derived.Test.YtiokhipgpfeoeaaStyH
set_option linter.all false
set_option linter.deprecated false
set_option maxRecDepth 1000000
set_option maxHeartbeats 4000000
namespace Go.Proofs.TabH
open Go Go.Eng
noncomputable abbrev AB (z : Nat) : Nat := Int.toNat (wr IntKind.u64 (↑(BitVec.toNat (BitVec.ofInt 64 (uI z) &&& ~~~BitVec.ofInt 64 9223372036854775808)) : Int))
theorem ab_eq {z : Nat} (h : z < 18446744073709551616) : AB z = z % 9223372036854775808 := by
  have e1 : (BitVec.ofInt 64 (uI z)).toNat = z := by rw [uI_eq]; simp [BitVec.toNat_ofInt]; omega
  have e2 : (~~~BitVec.ofInt 64 9223372036854775808) = BitVec.ofNat 64 9223372036854775807 := by decide
  have e3 : (BitVec.toNat (BitVec.ofInt 64 (uI z) &&& ~~~BitVec.ofInt 64 9223372036854775808)) = z % 9223372036854775808 := by
    rw [e2, BitVec.toNat_and, e1]
    have : (BitVec.ofNat 64 9223372036854775807).toNat = 2 ^ 63 - 1 := by decide
    rw [this, Nat.and_two_pow_sub_one_eq_mod]
  unfold AB
  rw [e3]
  show (((z % 9223372036854775808 : Nat) : Int) % 18446744073709551616).toNat = _
  omega
noncomputable abbrev SB (a b : Nat) : Nat := Option.getD (floatBits BinOp.sub FloatKind.f64 a b) 0
theorem sub_is {a b : Nat} (ha : a ≤ f1W) (hb : b ≤ f1W) : Option.isSome (floatBits BinOp.sub FloatKind.f64 a b) = true := by
  rw [(sub_some (unit_num ha) (unit_num hb)).1]; rfl
/-- How far two are from one another. -/
theorem ab_sub {a b : Nat} (ha : a ≤ f1W) (hb : b ≤ f1W) : AB (SB a b) = if Vr a < Vr b then nr (Vr b - Vr a) (-1074) else nr (Vr a - Vr b) (-1074) := by
  have h1 : f1W = 4607182418800017408 := rfl
  have hs := (sub_some (unit_num ha) (unit_num hb)).2.2
  have e : SB a b = subF a b := rfl
  rw [e, ab_eq hs, sub_pos (by omega) (by omega)]
  split
  · have := nr_inf (Vr b - Vr a) (-1074)
    rw [mod_top (by omega)]
  · have := nr_inf (Vr a - Vr b) (-1074)
    rw [Nat.mod_eq_of_lt (by omega)]
theorem ab0 {y : Nat} (hy : y ≤ f1W) : AB (SB y 0) = y := by
  have h1 : f1W = 4607182418800017408 := rfl
  rw [ab_sub hy (by omega), if_neg (by rw [Vr_zero]; omega), Vr_zero, Nat.sub_zero, nr_exact (by omega)]
theorem ab1 {y : Nat} (hy : y ≤ f1W) : AB (SB y f1W) = nr (Vr f1W - Vr y) (-1074) := by
  rw [ab_sub hy (Nat.le_refl _)]
  split
  · rfl
  · rename_i h
    rw [Vr_lt_iff] at h
    have : y = f1W := by omega
    rw [this, Nat.sub_self]
theorem ab1_lt {y : Nat} (hy : y ≤ f1W) : nr (Vr f1W - Vr y) (-1074) < 9218868437227405312 := by
  have h1 : f1W = 4607182418800017408 := rfl
  have := nr_le_of (m := Vr f1W - Vr y) (r := f1W) (by omega) (by omega); omega

def bnd (i : Nat) : Nat := (1023 - i) * 4503599627370496
theorem bnd_le (i : Nat) : bnd i ≤ f1W := by
  have h1 : f1W = 4607182418800017408 := rfl
  unfold bnd; omega
theorem clamp00 : clampV 0 0 f1W = 0 := by decide
theorem clamp11 : clampV 4607182418800017408 0 f1W = f1W := by decide
theorem note0 {y : Nat} {c : Int} (hy : y ≤ f1W) (hc : c ≠ 0) : noteO y c 0 4602678819172646912 = noteA 1 y 0 := by
  have h1 : f1W = 4607182418800017408 := rfl
  rw [note_val (w := 4602678819172646912) (j := 1) (by rfl) (by omega) hy (by omega) (by decide) hc, clamp00]
  have h : noteA 1 y 0 ≤ y := Nat.le_trans (noteA_down (j := 0) (s := y) (X := 0) (by omega) (by omega)).1 (Nat.le_refl _)
  rw [if_neg (by omega)]
theorem note0_le {y : Nat} (hy : y ≤ f1W) : noteA 1 y 0 ≤ y := by
  have h1 : f1W = 4607182418800017408 := rfl
  exact (noteA_down (j := 0) (s := y) (X := 0) (by omega) (by omega)).1
/-- Half of what is great. -/
theorem half_exact {r : Nat} (h : 9007199254740992 ≤ r) (h' : r ≤ 9218868437227405312) : Vr r = 2 * Vr (r - 4503599627370496) := by
  unfold Vr
  rw [if_neg (by omega), if_neg (by omega)]
  have e1 : (r - 4503599627370496) % 4503599627370496 = r % 4503599627370496 := by omega
  have e2 : (r - 4503599627370496) / 4503599627370496 = r / 4503599627370496 - 1 := by omega
  rw [e1, e2]
  obtain ⟨k, hk⟩ : ∃ k, r / 4503599627370496 - 1 = k + 1 := ⟨r / 4503599627370496 - 2, by omega⟩
  rw [hk, show k + 1 - 1 = k by omega, Nat.pow_succ, ← Nat.mul_assoc, Nat.mul_comm _ 2]
theorem note0_half {y : Nat} (hy : y ≤ f1W) (h : 9007199254740992 ≤ y) : noteA 1 y 0 = y - 4503599627370496 := by
  have h1 : f1W = 4607182418800017408 := rfl
  have hh := half_exact h (by omega)
  unfold noteA wayP
  rw [if_pos (by omega), if_pos (by omega), Vr_zero, Nat.sub_zero, nr_exact (by omega)]
  have e : nr (Vr y) (-1074 - ((1 : Nat) : Int)) = y - 4503599627370496 := by
    rw [hh, show (-1074 : Int) - ((1 : Nat) : Int) = -1074 - 1 by omega, nr_two, nr_exact (by omega)]
  rw [e, hh, show 2 * Vr (y - 4503599627370496) - Vr (y - 4503599627370496) = Vr (y - 4503599627370496) by omega, nr_exact (by omega)]
theorem note0_bnd {y i : Nat} (hi : i < 80) (hb : y ≤ bnd i) : noteA 1 y 0 ≤ bnd (i + 1) := by
  have hu : y ≤ f1W := Nat.le_trans hb (bnd_le i)
  by_cases h : 9007199254740992 ≤ y
  · rw [note0_half hu h]; unfold bnd at *; omega
  · have := note0_le hu
    unfold bnd; omega
/-- The way to 1. -/
def seqH : Nat → Nat
  | 0 => 4602678819172646912
  | i + 1 => if f1W < noteA 1 (seqH i) f1W then f1W else noteA 1 (seqH i) f1W
theorem seq_le : ∀ i, seqH i ≤ f1W := by
  intro i
  cases i with
  | zero => decide
  | succ i => unfold seqH; split <;> omega
theorem note1 {y : Nat} {c : Int} (hy : y ≤ f1W) (hc : c ≠ 0) : noteO y c 4607182418800017408 4602678819172646912 = if f1W < noteA 1 y f1W then f1W else noteA 1 y f1W := by
  rw [note_val (w := 4602678819172646912) (j := 1) (by rfl) (by omega) hy (by omega) (by decide) hc, clamp11]
theorem note1_first {y : Nat} {c : Int} (hy : y ≤ bnd 80) (hc : c ≠ 0) : noteO y c 4607182418800017408 4602678819172646912 = seqH 0 := by
  have h1 : f1W = 4607182418800017408 := rfl
  have hu : y ≤ f1W := Nat.le_trans hy (bnd_le _)
  have hV := Vr_le hy
  rw [note1 hu hc]
  have hlt : ¬ f1W < y := by omega
  have e1 : nr (Vr f1W - Vr y) (-1074) = f1W := by
    have a := nr_mono (m := Vr f1W - Vr (bnd 80)) (n := Vr f1W - Vr y) (by omega) (-1074)
    have b := nr_le_of (m := Vr f1W - Vr y) (r := f1W) (by omega) (by omega)
    have c : nr (Vr f1W - Vr (bnd 80)) (-1074) = f1W := by decide +kernel
    omega
  have e2 : nr (Vr f1W) (-1074 - ((1 : Nat) : Int)) = 4602678819172646912 := by decide +kernel
  have e3 : nr (Vr y + Vr 4602678819172646912) (-1074) = 4602678819172646912 := by
    have a := nr_mono (m := Vr 4602678819172646912) (n := Vr y + Vr 4602678819172646912) (by omega) (-1074)
    have b := nr_mono (m := Vr y + Vr 4602678819172646912) (n := Vr (bnd 80) + Vr 4602678819172646912) (by omega) (-1074)
    have c : nr (Vr (bnd 80) + Vr 4602678819172646912) (-1074) = 4602678819172646912 := by decide +kernel
    rw [nr_exact (by omega)] at a
    omega
  have e4 : noteA 1 y f1W = 4602678819172646912 := by
    unfold noteA wayP
    rw [if_neg hlt, if_neg hlt, e1, e2, e3]
  rw [e4]; rfl
theorem note1_ge {y : Nat} (hy : y ≤ f1W) : y ≤ if f1W < noteA 1 y f1W then f1W else noteA 1 y f1W := by
  have h1 : f1W = 4607182418800017408 := rfl
  have := (noteA_up (j := 0) (s := y) (X := f1W) (by omega) hy).1
  have e : noteA (0 + 1) y f1W = noteA 1 y f1W := rfl
  rw [e] at this
  split <;> omega
theorem seq_end : nr (Vr f1W - Vr (seqH 79)) (-1074) ≤ 4472406533629990549 := by decide +kernel

/-! ## What the loops ask -/
section
variable {y : Nat} {c : Int} (hu : y ≤ f1W) (hc : c > 0)
include hu hc
theorem q0a : Option.isSome (floatBits BinOp.sub FloatKind.f64 (noteO y c 0 4602678819172646912) 0) = true := by
  rw [note0 hu (by omega)]; exact sub_is (Nat.le_trans (note0_le hu) hu) (by decide)
theorem q0b : Option.isSome (floatBits BinOp.sub FloatKind.f64 y 0) = true := sub_is hu (by decide)
theorem q0c : (FO (AB (SB (noteO y c 0 4602678819172646912) 0)) (AB (SB y 0)) == some Ordering.gt) = false := by
  have h1 : f1W = 4607182418800017408 := rfl
  have hl := note0_le hu
  rw [note0 hu (by omega), ab0 hu, ab0 (Nat.le_trans hl hu)]
  show (fo _ _ == some .gt) = false
  rw [fo_gt (by omega) (by omega)]; exact decide_eq_false (by omega)
theorem q0d (hb : y ≤ bnd 80) : (FO (AB (SB y 0)) 4472406533629990549 == some Ordering.gt) = false := by
  have h1 : f1W = 4607182418800017408 := rfl
  rw [ab0 hu]
  show (fo _ _ == some .gt) = false
  rw [fo_gt (by omega) (by omega)]; refine decide_eq_false ?_
  unfold bnd at hb; omega
theorem q1a : Option.isSome (floatBits BinOp.sub FloatKind.f64 (noteO y c 4607182418800017408 4602678819172646912) 4607182418800017408) = true := by
  rw [note1 hu (by omega)]; refine sub_is ?_ (Nat.le_refl _); split <;> omega
theorem q1b : Option.isSome (floatBits BinOp.sub FloatKind.f64 y 4607182418800017408) = true := sub_is hu (Nat.le_refl _)
theorem q1c : (FO (AB (SB (noteO y c 4607182418800017408 4602678819172646912) 4607182418800017408)) (AB (SB y 4607182418800017408)) == some Ordering.gt) = false := by
  have h1 : f1W = 4607182418800017408 := rfl
  have hl := note1_ge hu
  have hg : noteO y c 4607182418800017408 4602678819172646912 ≤ f1W := by rw [note1 hu (by omega)]; split <;> omega
  have e1 := ab1 hu
  have e2 := ab1 hg
  have m1 := ab1_lt hu
  have m2 := ab1_lt hg
  show (fo (AB (SB (noteO y c 4607182418800017408 4602678819172646912) f1W)) (AB (SB y f1W)) == some .gt) = false
  rw [e1, e2, fo_gt m2 m1]
  refine decide_eq_false ?_
  have hle : y ≤ noteO y c 4607182418800017408 4602678819172646912 := by rw [note1 hu (by omega)]; exact hl
  have hV := Vr_le hle
  have := nr_mono (m := Vr f1W - Vr (noteO y c 4607182418800017408 4602678819172646912)) (n := Vr f1W - Vr y) (by omega) (-1074)
  omega
theorem q1d (hb : y = seqH 79) : (FO (AB (SB y 4607182418800017408)) 4472406533629990549 == some Ordering.gt) = false := by
  have e1 := ab1 hu
  have m1 := ab1_lt hu
  show (fo (AB (SB y f1W)) 4472406533629990549 == some .gt) = false
  rw [e1, fo_gt m1 (by omega)]
  refine decide_eq_false ?_
  rw [hb]; have := seq_end; omega
end
theorem uOf {y : Nat} {c : Int} (hy : y < 18446744073709551616) (hh : healthO y c = true) (hc : c > 0) : y ≤ f1W := (health_unit hy hh (by omega)).2
theorem ex0 {i y : Nat} {c : Int} (hi : i ≤ 80) (h : ¬ (i : Int) < 80) (hb : c > 0 → y ≤ bnd i) (hp : 0 < i → c > 0) : y ≤ bnd 80 := by
  obtain rfl : i = 80 := by omega
  exact hb (hp (by omega))
theorem ex1 {i : Nat} {c : Int} (h : ¬ (i : Int) < 80) (hp : 0 < i → c > 0) : c > 0 := hp (by omega)
theorem ex2 {i y : Nat} (hi : i ≤ 80) (h : ¬ (i : Int) < 80) (hb : (i = 0 ∧ y ≤ bnd 80) ∨ (0 < i ∧ y = seqH (i - 1))) : y = seqH 79 := by
  obtain rfl : i = 80 := by omega
  rcases hb with ⟨h, _⟩ | ⟨_, h⟩
  · omega
  · exact h
end Go.Proofs.TabH
