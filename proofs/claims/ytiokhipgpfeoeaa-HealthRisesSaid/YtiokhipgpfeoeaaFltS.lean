/- Lemmas about the evaluator of the code. -/
import Derived.Test.YtiokhipgpfeoeaaFltN
set_option linter.all false
set_option linter.deprecated false
set_option autoImplicit false
set_option maxRecDepth 100000
namespace Go.Eng
open Go

theorem ng_unit {x : Nat} (h : x < 9223372036854775808) : ngW x = false := by
  unfold ngW; rw [Nat.div_eq_of_lt h]; rfl
theorem ng_top {r : Nat} (h : r < 9223372036854775808) : ngW (9223372036854775808 + r) = true := by
  unfold ngW
  rw [Nat.add_div_left _ (by omega), Nat.div_eq_of_lt h]; rfl
theorem mod_top {r : Nat} (h : r < 9223372036854775808) : (9223372036854775808 + r) % 9223372036854775808 = r := by
  rw [Nat.add_mod_left, Nat.mod_eq_of_lt h]
theorem unit_lt {x : Nat} (h : x ≤ f1W) : x < 9218868437227405312 := by
  have : x ≤ 4607182418800017408 := h
  omega
theorem write_nr (s : Bool) (m : Nat) (p : Int) : (FloatKind.format .f64).write (.number s m p) = if s = true then 9223372036854775808 + nr m p else nr m p := nearest_nr s m p
theorem nr_inf (m : Nat) (p : Int) : nr m p ≤ 9218868437227405312 := by
  unfold nr; split
  · omega
  · exact Nat.min_le_right _ _
/-- A number that is told in units. -/
theorem nr_unit {m a b k : Nat} (h : m * 2 ^ k = a) (hk : k = b) : nr m (-1074 + (b : Int)) = nr a (-1074) := by
  subst hk
  have := nr_pow k m (-1074 + (k : Int))
  rw [h, show -1074 + (k : Int) - k = -1074 by omega] at this
  exact this.symm

/-! ## What is 0 or more -/
theorem fo_pos {a b : Nat} (ha : a < 9218868437227405312) (hb : b < 9218868437227405312) : fo a b = some (compare a b) := by
  have na : nanW a = false := nanF.2 (by rw [Nat.mod_eq_of_lt (by omega)]; omega)
  have nb : nanW b = false := nanF.2 (by rw [Nat.mod_eq_of_lt (by omega)]; omega)
  rw [fo_sv na nb]
  unfold svW
  rw [ng_unit (by omega), ng_unit (by omega), Nat.mod_eq_of_lt (show a < 9223372036854775808 by omega), Nat.mod_eq_of_lt (show b < 9223372036854775808 by omega)]
  simp only [Bool.false_eq_true, if_false]
  congr 1
  rcases Nat.lt_trichotomy a b with h | h | h
  · rw [Nat.compare_eq_lt.2 h, Int.compare_eq_lt.2 (by have := Vr_lt h; omega)]
  · subst h; rw [cmp_selfN, cmp_selfI]
  · rw [Nat.compare_eq_gt.2 h, Int.compare_eq_gt.2 (by have := Vr_lt h; omega)]
theorem fo_lt {a b : Nat} (ha : a < 9218868437227405312) (hb : b < 9218868437227405312) : (fo a b == some .lt) = decide (a < b) := by
  rw [fo_pos ha hb]
  rcases Nat.lt_trichotomy a b with h | h | h
  · rw [Nat.compare_eq_lt.2 h, decide_eq_true h]; rfl
  · subst h; rw [cmp_selfN, decide_eq_false (by omega)]; rfl
  · rw [Nat.compare_eq_gt.2 h, decide_eq_false (by omega)]; rfl
theorem fo_gt {a b : Nat} (ha : a < 9218868437227405312) (hb : b < 9218868437227405312) : (fo a b == some .gt) = decide (b < a) := by
  rw [fo_pos ha hb]
  rcases Nat.lt_trichotomy a b with h | h | h
  · rw [Nat.compare_eq_lt.2 h, decide_eq_false (by omega)]; rfl
  · subst h; rw [cmp_selfN, decide_eq_false (by omega)]; rfl
  · rw [Nat.compare_eq_gt.2 h, decide_eq_true h]; rfl

/-! ## Arithmetic from 0 to 1 -/
theorem sum_eq (s t : Bool) (m n a b : Nat) : ∃ k, Ieee.Datum.sum (.number s m (-1074 + (a : Int))) (.number t n (-1074 + (b : Int))) =
    some (.number (if Ieee.signed s (m * 2 ^ (a - min a b)) 0 + Ieee.signed t (n * 2 ^ (b - min a b)) 0 = 0 then s && t else decide (Ieee.signed s (m * 2 ^ (a - min a b)) 0 + Ieee.signed t (n * 2 ^ (b - min a b)) 0 < 0)) k (-1074 + ((min a b : Nat) : Int))) ∧
      k = (Ieee.signed s (m * 2 ^ (a - min a b)) 0 + Ieee.signed t (n * 2 ^ (b - min a b)) 0).natAbs := by
  refine ⟨_, ?_, rfl⟩
  unfold Ieee.Datum.sum
  have e : min (-1074 + (a : Int)) (-1074 + (b : Int)) = -1074 + ((min a b : Nat) : Int) := by omega
  simp only [e]
  have e1 : ((-1074 + (a : Int)) - (-1074 + ((min a b : Nat) : Int))).toNat = a - min a b := by omega
  have e2 : ((-1074 + (b : Int)) - (-1074 + ((min a b : Nat) : Int))).toNat = b - min a b := by omega
  rw [e1, e2]
  have s0 : ∀ (s : Bool) (m k : Nat), Ieee.signed s m k = Ieee.signed s (m * 2 ^ k) 0 := by intro s m k; rw [signed_eq, signed_eq]; simp
  rw [s0 s m, s0 t n]
/-- Where the first one is a number of no sign: the sum in units. -/
theorem sumU {m n a b X Y : Nat} (hX : m * 2 ^ a = X) (hY : n * 2 ^ b = Y) : (Ieee.Datum.sum (.number false m (-1074 + (a : Int))) (.number false n (-1074 + (b : Int)))).map (FloatKind.format .f64).write = some (nr (X + Y) (-1074)) ∧
    (Ieee.Datum.sum (.number false m (-1074 + (a : Int))) (.number true n (-1074 + (b : Int)))).map (FloatKind.format .f64).write = some (if X < Y then 9223372036854775808 + nr (Y - X) (-1074) else nr (X - Y) (-1074)) := by
  have p1 : m * 2 ^ (a - min a b) * 2 ^ (min a b) = X := by rw [Nat.mul_assoc, ← Nat.pow_add, ← hX]; congr 2; omega
  have p2 : n * 2 ^ (b - min a b) * 2 ^ (min a b) = Y := by rw [Nat.mul_assoc, ← Nat.pow_add, ← hY]; congr 2; omega
  have hg := Nat.two_pow_pos (min a b)
  constructor
  · obtain ⟨k, e, hk⟩ := sum_eq false false m n a b
    rw [e]
    simp only [signed_eq, Bool.false_eq_true, if_false, Nat.pow_zero, Nat.mul_one] at hk ⊢
    generalize m * 2 ^ (a - min a b) = u at *
    generalize n * 2 ^ (b - min a b) = v at *
    have hk : k = u + v := by omega
    subst hk
    simp only [Option.map_some]
    rw [write_nr]
    have : (if ((u : Int) + (v : Int) = 0) then (false && false) else decide ((u : Int) + (v : Int) < 0)) = false := by
      split
      · rfl
      · exact decide_eq_false (by omega)
    rw [this]
    simp only [Bool.false_eq_true, if_false]
    rw [nr_unit (a := X + Y) (k := min a b) (by rw [Nat.add_mul, p1, p2]) rfl]
  · obtain ⟨k, e, hk⟩ := sum_eq false true m n a b
    rw [e]
    simp only [signed_eq, Bool.false_eq_true, if_false, if_true, Nat.pow_zero, Nat.mul_one] at hk ⊢
    generalize m * 2 ^ (a - min a b) = u at *
    generalize n * 2 ^ (b - min a b) = v at *
    simp only [Option.map_some]
    rw [write_nr]
    by_cases h : u < v
    · have hXY : X < Y := by rw [← p1, ← p2]; exact Nat.mul_lt_mul_of_pos_right h hg
      have hk : k = v - u := by omega
      subst hk
      have : (if ((u : Int) + -(v : Int) = 0) then (false && true) else decide ((u : Int) + -(v : Int) < 0)) = true := by
        rw [if_neg (by omega)]; exact decide_eq_true (by omega)
      rw [this, if_pos rfl, if_pos hXY, nr_unit (a := Y - X) (k := min a b) (by rw [Nat.sub_mul, p1, p2]) rfl]
    · have hXY : ¬ X < Y := by
        rw [← p1, ← p2]; intro h2; exact h (Nat.lt_of_mul_lt_mul_right h2)
      have hk : k = u - v := by omega
      subst hk
      have : (if ((u : Int) + -(v : Int) = 0) then (false && true) else decide ((u : Int) + -(v : Int) < 0)) = false := by
        split
        · rfl
        · exact decide_eq_false (by omega)
      rw [this, if_neg (by simp), if_neg hXY, nr_unit (a := X - Y) (k := min a b) (by rw [Nat.sub_mul, p1, p2]) rfl]
theorem read_u {x : Nat} (h : numW x) : (FloatKind.format .f64).read x = .number (ngW x) (magW x) (-1074 + (upW x : Int)) := by
  rw [read_num h, plW_up]
theorem sub_pos {x h : Nat} (hx : x < 9218868437227405312) (hh : h < 9218868437227405312) : subF x h = if Vr x < Vr h then 9223372036854775808 + nr (Vr h - Vr x) (-1074) else nr (Vr x - Vr h) (-1074) := by
  have nx : numW x := by unfold numW; omega
  have nh : numW h := by unfold numW; omega
  unfold subF
  show ((FloatKind.format .f64).sub x h).getD 0 = _
  unfold Ieee.Format.sub
  rw [read_u nx, read_u nh, ng_unit (by omega), ng_unit (by omega)]
  have mx := mag_up x
  have mh := mag_up h
  rw [Nat.mod_eq_of_lt (by omega)] at mx mh
  show ((Ieee.Datum.sum (.number false (magW x) (-1074 + (upW x : Int))) (.number true (magW h) (-1074 + (upW h : Int)))).map (FloatKind.format .f64).write).getD 0 = _
  rw [(sumU mx mh).2]; rfl
theorem add_pos {h d : Nat} (hh : h < 9218868437227405312) (hd : d % 9223372036854775808 < 9218868437227405312) (hle : ngW d = true → Vr (d % 9223372036854775808) ≤ Vr h) :
    addF h d = nr (if ngW d = true then Vr h - Vr (d % 9223372036854775808) else Vr h + Vr (d % 9223372036854775808)) (-1074) := by
  have nd : numW d := hd
  have nh : numW h := by unfold numW; omega
  unfold addF
  show ((FloatKind.format .f64).add h d).getD 0 = _
  unfold Ieee.Format.add
  rw [read_u nd, read_u nh, ng_unit (by omega)]
  have md := mag_up d
  have mh := mag_up h
  rw [Nat.mod_eq_of_lt (by omega)] at mh
  cases hs : ngW d with
  | true =>
    rw [(sumU mh md).2, if_neg (by have := hle hs; omega)]; rfl
  | false => rw [(sumU mh md).1]; rfl
/-- Half, a quarter, .. of a number. -/
theorem mul_half {w d j : Nat} (hw : w = (1023 - j) * 4503599627370496) (hj : j < 1000) (hd : d % 9223372036854775808 < 9218868437227405312) :
    mulF w d = if ngW d = true then 9223372036854775808 + nr (Vr (d % 9223372036854775808)) (-1074 - (j : Int)) else nr (Vr (d % 9223372036854775808)) (-1074 - (j : Int)) := by
  have nd : numW d := hd
  have hwl : w < 9218868437227405312 := by omega
  have nw : numW w := by unfold numW; omega
  unfold mulF
  show ((FloatKind.format .f64).mul w d).getD 0 = _
  unfold Ieee.Format.mul
  rw [read_u nd, read_u nw, ng_unit (by omega)]
  have e1 : magW w = 4503599627370496 := by
    unfold magW; rw [Nat.mod_eq_of_lt (show w < 9223372036854775808 by omega), if_neg (by omega)]; omega
  have e2 : upW w = 1022 - j := by
    unfold upW; rw [Nat.mod_eq_of_lt (show w < 9223372036854775808 by omega), if_neg (by omega)]; omega
  rw [e1, e2]
  show ((some (Ieee.Datum.number (false ^^ ngW d) (4503599627370496 * magW d) (-1074 + ((1022 - j : Nat) : Int) + (-1074 + (upW d : Int))))).map (FloatKind.format .f64).write).getD 0 = _
  simp only [Option.map_some, Option.getD_some]
  rw [write_nr, Bool.false_xor]
  have e : nr (4503599627370496 * magW d) (-1074 + ((1022 - j : Nat) : Int) + (-1074 + (upW d : Int))) = nr (Vr (d % 9223372036854775808)) (-1074 - (j : Int)) := by
    have h1 := nr_pow 52 (magW d) (-1074 - (j : Int) + (upW d : Int))
    have h2 := nr_pow (upW d) (magW d) (-1074 - (j : Int) + (upW d : Int))
    rw [mag_up] at h2
    rw [show -1074 - (j : Int) + (upW d : Int) - (upW d : Nat) = -1074 - (j : Int) by omega] at h2
    rw [h2, ← h1]
    have e52 : (2 : Nat) ^ 52 = 4503599627370496 := by decide
    rw [e52, Nat.mul_comm]
    congr 1
    omega
  rw [e]
end Go.Eng
