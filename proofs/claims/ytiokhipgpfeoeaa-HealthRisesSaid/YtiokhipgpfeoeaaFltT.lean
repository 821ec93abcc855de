/- Lemmas about the evaluator of the code. -/
import Derived.Test.YtiokhipgpfeoeaaFltS
set_option linter.all false
set_option linter.deprecated false
set_option autoImplicit false
set_option maxRecDepth 100000
namespace Go.Eng
open Go

theorem half_le {D j : Nat} (h : D ≤ 9218868437227405312) : nr (Vr D) (-1074 - (j : Int)) ≤ D := by
  have h1 := nr_mono (m := Vr D) (n := Vr D * 2 ^ j) (Nat.le_mul_of_pos_right _ (Nat.two_pow_pos j)) (-1074 - (j : Int))
  rw [nr_pow, nr_exact h] at h1; exact h1
theorem half_mono {D j : Nat} : nr (Vr D) (-1074 - ((j + 1 : Nat) : Int)) ≤ nr (Vr D) (-1074 - (j : Int)) := by
  have h1 := nr_mono (m := Vr D) (n := 2 * Vr D) (by omega) (-1074 - ((j + 1 : Nat) : Int))
  rw [show -1074 - ((j + 1 : Nat) : Int) = -1074 - (j : Int) - 1 by omega, nr_two] at h1
  rw [show -1074 - ((j + 1 : Nat) : Int) = -1074 - (j : Int) - 1 by omega]; exact h1
/-- A part of the way from s to X. -/
def wayP (j s X : Nat) : Nat := nr (Vr (nr (if X < s then Vr s - Vr X else Vr X - Vr s) (-1074))) (-1074 - (j : Int))
def noteA (j s X : Nat) : Nat := if X < s then nr (Vr s - Vr (wayP j s X)) (-1074) else nr (Vr s + Vr (wayP j s X)) (-1074)
theorem way_le {j s X : Nat} (hs : s < 9218868437227405312) (hX : X < 9218868437227405312) : wayP j s X ≤ if X < s then s else X := by
  unfold wayP
  split
  · have h := nr_le_of (m := Vr s - Vr X) (r := s) (by omega) (by omega)
    exact Nat.le_trans (half_le (by omega)) h
  · have h := nr_le_of (m := Vr X - Vr s) (r := X) (by omega) (by omega)
    exact Nat.le_trans (half_le (by omega)) h
theorem note_way {w j s X : Nat} (hw : w = (1023 - j) * 4503599627370496) (hj : j < 1000) (hs : s < 9218868437227405312) (hX : X < 9218868437227405312) : addF s (mulF w (subF X s)) = noteA j s X := by
  have hway := way_le (j := j) hs hX
  rw [sub_pos hX hs]
  unfold noteA
  by_cases h : X < s
  · rw [if_pos (Vr_lt h), if_pos h]
    rw [if_pos h] at hway
    have hD := nr_le_of (m := Vr s - Vr X) (r := s) (by omega) (by omega)
    have hwy : wayP j s X = nr (Vr (nr (Vr s - Vr X) (-1074))) (-1074 - (j : Int)) := by unfold wayP; rw [if_pos h]
    rw [mul_half hw hj (by rw [mod_top (by omega)]; omega), ng_top (by omega), mod_top (by omega), if_pos rfl, ← hwy,
      add_pos hs (by rw [mod_top (by omega)]; omega) (fun _ => by rw [mod_top (by omega)]; exact Vr_le hway), ng_top (by omega), mod_top (by omega), if_pos rfl]
  · rw [if_neg (by rw [Vr_lt_iff]; exact h), if_neg h]
    rw [if_neg h] at hway
    have hD := nr_le_of (m := Vr X - Vr s) (r := X) (by omega) (by omega)
    have hwy : wayP j s X = nr (Vr (nr (Vr X - Vr s) (-1074))) (-1074 - (j : Int)) := by unfold wayP; rw [if_neg h]
    have nD : ngW (nr (Vr X - Vr s) (-1074)) = false := ng_unit (by omega)
    rw [mul_half hw hj (by rw [Nat.mod_eq_of_lt (by omega)]; omega), nD, Nat.mod_eq_of_lt (show nr (Vr X - Vr s) (-1074) < 9223372036854775808 by omega), if_neg (by simp), ← hwy]
    have nP : ngW (wayP j s X) = false := ng_unit (by omega)
    rw [add_pos hs (by rw [Nat.mod_eq_of_lt (by omega)]; omega) (fun e => by rw [nP] at e; cases e), nP, Nat.mod_eq_of_lt (by omega), if_neg (by simp)]
theorem noteA_le {j s X : Nat} : noteA j s X ≤ 9218868437227405312 := by unfold noteA; split <;> exact nr_inf _ _
theorem clamp_pos {z : Nat} (hz : z ≤ 9218868437227405312) : clampV z 0 f1W = if f1W < z then f1W else z := by
  have h1 : f1W = 4607182418800017408 := rfl
  have nz : nanW z = false := nanF.2 (by rw [Nat.mod_eq_of_lt (by omega)]; omega)
  have n0 : nanW 0 = false := by decide
  have n1 : nanW f1W = false := by decide
  unfold clampV
  rw [if_neg (by simp [nz, n0, n1])]
  have b : bitsV z = z + 9223372036854775808 := bits_lo nz (by omega)
  have h01 : ¬ (cmpV z 0 < 0 ∨ cmpV 0 f1W > 0) := by
    rw [cmp_lt, b, bits_zero]
    rintro (h | h)
    · omega
    · revert h; decide
  rw [if_neg h01]
  by_cases h : f1W < z
  · rw [if_pos (by rw [cmp_gt, b, bits_one]; rw [h1] at h; omega), if_pos h]
  · rw [if_neg (by rw [cmp_gt, b, bits_one]; rw [h1] at h; omega), if_neg h]
theorem note_val {w j s x : Nat} {c : Int} (hw : w = (1023 - j) * 4503599627370496) (hj : j < 1000) (hs : s ≤ f1W) (hx : x < 18446744073709551616) (hn : nanW x = false) (hc : c ≠ 0) :
    noteO s c x w = if f1W < noteA j s (clampV x 0 f1W) then f1W else noteA j s (clampV x 0 f1W) := by
  have h1 : f1W = 4607182418800017408 := rfl
  have hX := clamp_unit hx hn
  rw [noteO_eq]
  unfold noteV
  rw [if_neg (by simp [hn]), if_neg hc, note_way hw hj (by omega) (by omega), clamp_pos noteA_le]

theorem noteA_up {j s X : Nat} (hs : s ≤ 9218868437227405312) (h : s ≤ X) : s ≤ noteA (j + 1) s X ∧ noteA (j + 1) s X ≤ noteA j s X := by
  unfold noteA wayP
  rw [if_neg (by omega), if_neg (by omega), if_neg (by omega)]
  refine ⟨nr_ge_of (by omega) hs, nr_mono ?_ _⟩
  exact Nat.add_le_add_left (Vr_le half_mono) _
theorem noteA_same {j s : Nat} (hs : s ≤ 9218868437227405312) : noteA j s s = s := by
  unfold noteA wayP
  rw [if_neg (by omega), if_neg (by omega), Nat.sub_self]
  have e : nr 0 (-1074) = 0 := rfl
  rw [e, Vr_zero]
  have e2 : nr 0 (-1074 - (j : Int)) = 0 := rfl
  rw [e2, Vr_zero, Nat.add_zero, nr_exact hs]
theorem noteA_down {j s X : Nat} (hs : s ≤ 9218868437227405312) (h : X ≤ s) : noteA (j + 1) s X ≤ s ∧ noteA j s X ≤ noteA (j + 1) s X := by
  rcases Nat.lt_or_ge X s with h1 | h1
  · unfold noteA wayP
    rw [if_pos h1, if_pos h1, if_pos h1]
    refine ⟨nr_le_of (by omega) hs, nr_mono ?_ _⟩
    exact Nat.sub_le_sub_left (Vr_le half_mono) _
  · obtain rfl : X = s := by omega
    rw [noteA_same hs, noteA_same hs]; omega
/-- How a float stands to one from 0 to 1, and what it is brought to. -/
theorem clamp_ge {x y : Nat} (hx : x < 18446744073709551616) (hn : nanW x = false) (hy : y ≤ f1W) (h : (fo x y == some .gt || fo x y == some .eq) = true) : y ≤ clampV x 0 f1W := by
  have h1 : f1W = 4607182418800017408 := rfl
  have ny : nanW y = false := (unit_num hy).nan
  have n0 : nanW 0 = false := by decide
  have n1 : nanW f1W = false := by decide
  rw [fo_sv hn ny] at h
  have hge : svW y ≤ svW x := by
    rcases Int.lt_trichotomy (svW x) (svW y) with h2 | h2 | h2
    · rw [Int.compare_eq_lt.2 h2] at h; cases h
    · omega
    · omega
  have sy : svW y = Vr y := by unfold svW; rw [ng_unit (by omega), Nat.mod_eq_of_lt (by omega)]; rfl
  by_cases hx2 : x < 9223372036854775808
  · have hz : x ≤ 9218868437227405312 := by
      have := nanF.1 hn; rwa [Nat.mod_eq_of_lt hx2] at this
    have sx : svW x = Vr x := by unfold svW; rw [ng_unit hx2, Nat.mod_eq_of_lt hx2]; rfl
    rw [clamp_pos hz]
    have : y ≤ x := by rw [← Vr_le_iff]; omega
    split
    · exact hy
    · exact this
  · have hg : ngW x = true := by
      unfold ngW
      have : x / 9223372036854775808 = 1 := by omega
      rw [this]; rfl
    have sx : svW x = -(Vr (x % 9223372036854775808) : Int) := by unfold svW; rw [hg]; rfl
    have : Vr y = 0 := by omega
    have : y = 0 := by
      rcases Nat.eq_zero_or_pos y with h2 | h2
      · exact h2
      · have := Vr_lt h2; rw [Vr_zero] at this; omega
    omega
theorem clamp_le {x y : Nat} (hx : x < 18446744073709551616) (hn : nanW x = false) (hy : y ≤ f1W) (h : (fo x y == some .lt || fo x y == some .eq) = true) : clampV x 0 f1W ≤ y := by
  have h1 : f1W = 4607182418800017408 := rfl
  have ny : nanW y = false := (unit_num hy).nan
  rw [fo_sv hn ny] at h
  have hge : svW x ≤ svW y := by
    rcases Int.lt_trichotomy (svW x) (svW y) with h2 | h2 | h2
    · omega
    · omega
    · rw [Int.compare_eq_gt.2 h2] at h; cases h
  have sy : svW y = Vr y := by unfold svW; rw [ng_unit (by omega), Nat.mod_eq_of_lt (by omega)]; rfl
  by_cases hx2 : x < 9223372036854775808
  · have hz : x ≤ 9218868437227405312 := by
      have := nanF.1 hn; rwa [Nat.mod_eq_of_lt hx2] at this
    have sx : svW x = Vr x := by unfold svW; rw [ng_unit hx2, Nat.mod_eq_of_lt hx2]; rfl
    rw [clamp_pos hz]
    have : x ≤ y := by rw [← Vr_le_iff]; omega
    split <;> omega
  · have n0 : nanW 0 = false := by decide
    have n1 : nanW f1W = false := by decide
    unfold clampV
    rw [if_neg (by simp [hn, n0, n1])]
    rw [if_pos (by left; rw [cmp_lt, bits_hi hn hx2, bits_zero]; omega)]
    omega
/-! ## What the law asks -/
abbrev W4 : Nat := 4598175219545276416
abbrev W2 : Nat := 4602678819172646912
section
variable {y x : Nat} {c : Int} (hy : y < 18446744073709551616) (hh : healthO y c = true) (hc : c > 0) (hx : x < 18446744073709551616) (hn : (fo x x == some .eq) = true)
include hy hh hc hx hn
theorem rise_a (h : (fo x y == some .gt || fo x y == some .eq) = true) : (fo (noteO y c x W4) y == some .lt) = false := by
  have h1 : f1W = 4607182418800017408 := rfl
  have hn := isnum_of hn
  obtain ⟨_, hu⟩ := health_unit hy hh (by omega)
  have hX := clamp_ge hx hn hu h
  have hk : y ≤ noteA 2 y (clampV x 0 f1W) ∧ noteA 2 y (clampV x 0 f1W) ≤ noteA 1 y (clampV x 0 f1W) := noteA_up (j := 1) (s := y) (by omega) hX
  have hv := note_val (w := W4) (j := 2) (c := c) (by rfl) (by omega) hu hx hn (by omega)
  rw [hv, fo_lt (by split <;> omega) (by omega)]
  refine decide_eq_false ?_
  split <;> omega
theorem rise_b (h : (fo x y == some .gt || fo x y == some .eq) = true) : (fo (noteO y c x W2) (noteO y c x W4) == some .lt) = false := by
  have h1 : f1W = 4607182418800017408 := rfl
  have hn := isnum_of hn
  obtain ⟨_, hu⟩ := health_unit hy hh (by omega)
  have hX := clamp_ge hx hn hu h
  have hk : y ≤ noteA 2 y (clampV x 0 f1W) ∧ noteA 2 y (clampV x 0 f1W) ≤ noteA 1 y (clampV x 0 f1W) := noteA_up (j := 1) (s := y) (by omega) hX
  rw [note_val (w := W4) (j := 2) (c := c) (by rfl) (by omega) hu hx hn (by omega), note_val (w := W2) (j := 1) (c := c) (by rfl) (by omega) hu hx hn (by omega), fo_lt (by split <;> omega) (by split <;> omega)]
  refine decide_eq_false ?_
  split <;> split <;> omega
theorem fall_a (h : (fo x y == some .lt || fo x y == some .eq) = true) : (fo (noteO y c x W4) y == some .gt) = false := by
  have h1 : f1W = 4607182418800017408 := rfl
  have hn := isnum_of hn
  obtain ⟨_, hu⟩ := health_unit hy hh (by omega)
  have hX := clamp_le hx hn hu h
  have hk : noteA 2 y (clampV x 0 f1W) ≤ y ∧ noteA 1 y (clampV x 0 f1W) ≤ noteA 2 y (clampV x 0 f1W) := noteA_down (j := 1) (s := y) (by omega) hX
  rw [note_val (w := W4) (j := 2) (c := c) (by rfl) (by omega) hu hx hn (by omega), fo_gt (by split <;> omega) (by omega)]
  refine decide_eq_false ?_
  split <;> omega
theorem fall_b (h : (fo x y == some .lt || fo x y == some .eq) = true) : (fo (noteO y c x W2) (noteO y c x W4) == some .gt) = false := by
  have h1 : f1W = 4607182418800017408 := rfl
  have hn := isnum_of hn
  obtain ⟨_, hu⟩ := health_unit hy hh (by omega)
  have hX := clamp_le hx hn hu h
  have hk : noteA 2 y (clampV x 0 f1W) ≤ y ∧ noteA 1 y (clampV x 0 f1W) ≤ noteA 2 y (clampV x 0 f1W) := noteA_down (j := 1) (s := y) (by omega) hX
  rw [note_val (w := W4) (j := 2) (c := c) (by rfl) (by omega) hu hx hn (by omega), note_val (w := W2) (j := 1) (c := c) (by rfl) (by omega) hu hx hn (by omega), fo_gt (by split <;> omega) (by split <;> omega)]
  refine decide_eq_false ?_
  split <;> split <;> omega
end
/-- What is noted may be. -/
theorem unit_may {s : Nat} (h : s ≤ f1W) : ¬ cmpV s 0 < 0 ∧ ¬ cmpV s f1W > 0 := by
  have h1 : f1W = 4607182418800017408 := rfl
  have ns : nanW s = false := (unit_num h).nan
  rw [cmp_lt, cmp_gt, bits_lo ns (by omega), bits_zero, bits_one]
  omega
theorem health_note {s x w : Nat} {c : Int} (hs : s < 18446744073709551616) (hx : x < 18446744073709551616) (h : healthO s c = true) (hw : weightO w = true) : healthO (noteO s c x w) (noteC c x) = true := by
  obtain ⟨k1, k2, k3, k4⟩ := health_of.1 h
  cases hn : nanW x with
  | true => obtain ⟨e1, e2⟩ := note_nan (s := s) (c := c) (w := w) hn; rw [← e1, ← e2]; exact h
  | false =>
    have hcn : noteC c x = if c + 1 < 1099511627776 then c + 1 else 1099511627776 := (note_cnt hn).symm
    have hu : noteO s c x w ≤ f1W := by
      by_cases h0 : c = 0
      · rw [← (note_first (s := s) (w := w) hn h0).1, clampO_eq]; exact clamp_unit hx hn
      · have ha := note_arith hs hx h h0 hn hw
        obtain ⟨_, hu⟩ := health_unit hs h h0
        have hX := clamp_unit hx hn
        rw [weightO_eq] at hw
        unfold weightV at hw
        rw [Bool.and_eq_true] at hw
        obtain ⟨hw1, hw2⟩ := weight_num hw.1 hw.2
        obtain ⟨_, a2, _⟩ := sub_some (unit_num hX) (unit_num hu)
        obtain ⟨_, b2, _⟩ := mul_some hw1 hw2 a2
        obtain ⟨_, c2, c3⟩ := add_some (unit_num hu) b2
        rw [← note_more (s := s) (w := w) hn h0, clampO_eq, clampO_eq]
        exact clamp_unit c3 c2
    rw [health_of, hcn]
    refine ⟨by split <;> omega, by split <;> omega, fun e => by split at e <;> omega, fun _ => unit_may hu⟩
end Go.Eng
