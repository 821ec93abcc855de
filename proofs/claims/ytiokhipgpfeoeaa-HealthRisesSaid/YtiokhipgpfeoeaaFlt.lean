/- Floats as words: what comparing, clamping and noting them gives, in plain numbers; each lemma names its conditions. -/
import Derived.Test.YtiokhipgpfeoeaaEngZ
import Derived.Laws.FloatArith
set_option linter.all false
set_option linter.deprecated false
set_option autoImplicit false
set_option maxRecDepth 100000
namespace Go.Eng
open Go

/-! ## Floats as words -/
noncomputable abbrev fo (a b : Nat) : Option Ordering := Ieee.Format.order (FloatKind.format FloatKind.f64) a b
def nanW (x : Nat) : Bool := decide (9218868437227405312 < x % 9223372036854775808)
theorem nanT {x : Nat} : nanW x = true ↔ 9218868437227405312 < x % 9223372036854775808 := by simp [nanW]
theorem nanF {x : Nat} : nanW x = false ↔ x % 9223372036854775808 ≤ 9218868437227405312 := by simp [nanW]
/-- A word that stands for a number. -/
def numW (x : Nat) : Prop := x % 9223372036854775808 < 9218868437227405312
theorem numW.nan {x : Nat} (h : numW x) : nanW x = false := nanF.2 (Nat.le_of_lt h)
def ngW (x : Nat) : Bool := x / 9223372036854775808 % 2 == 1
def magW (x : Nat) : Nat := if x % 9223372036854775808 < 4503599627370496 then x % 9223372036854775808 else 4503599627370496 + x % 9223372036854775808 % 4503599627370496
def plW (x : Nat) : Int := if x % 9223372036854775808 < 4503599627370496 then -1074 else -1074 + (x % 9223372036854775808 / 4503599627370496 - 1 : Nat)
theorem read_raw (x : Nat) : (FloatKind.format .f64).read x = (if x % 9223372036854775808 < 4503599627370496 then .number (ngW x) (x % 9223372036854775808) (-1074)
    else if x % 9223372036854775808 < 9218868437227405312 then .number (ngW x) (4503599627370496 + x % 9223372036854775808 % 4503599627370496) (-1074 + (x % 9223372036854775808 / 4503599627370496 - 1 : Nat))
    else if x % 9223372036854775808 = 9218868437227405312 then .infinity (ngW x) else .nan (ngW x) (x % 9223372036854775808 - 9218868437227405312)) := by kernel_rfl
theorem read_num {x : Nat} (h : numW x) : (FloatKind.format .f64).read x = .number (ngW x) (magW x) (plW x) := by
  rw [read_raw]; unfold magW plW; unfold numW at h
  split
  · rfl
  · rfl
theorem read_inf {x : Nat} (h : x % 9223372036854775808 = 9218868437227405312) : (FloatKind.format .f64).read x = .infinity (ngW x) := by
  rw [read_raw, if_neg (by omega), if_neg (by omega), if_pos h]
theorem read_nan {x : Nat} (h : nanW x = true) : ∃ t, (FloatKind.format .f64).read x = .nan (ngW x) t := by
  have := nanT.1 h
  rw [read_raw, if_neg (by omega), if_neg (by omega), if_neg (by omega)]; exact ⟨_, rfl⟩
theorem mag_zero {x : Nat} : magW x = 0 ↔ x % 9223372036854775808 = 0 := by
  unfold magW; split <;> omega
theorem cases_w (x : Nat) : numW x ∨ x % 9223372036854775808 = 9218868437227405312 ∨ nanW x = true := by
  rw [nanT]; unfold numW; omega
theorem cmp_selfN (n : Nat) : compare n n = .eq := by simp
theorem cmp_selfI (n : Int) : compare n n = .eq := by simp
theorem fo_self (x : Nat) : (fo x x == some .eq) = !nanW x := by
  unfold fo Ieee.Format.order
  rcases cases_w x with h | h | h
  · rw [read_num h, numW.nan h]
    simp [Ieee.Datum.order]
  · rw [read_inf h, nanF.2 (by omega)]
    simp [Ieee.Datum.order]
  · obtain ⟨t, e⟩ := read_nan h
    rw [e, h]; rfl

/-! ## What arithmetic gives is no NaN -/
theorem word_le {s : Bool} {r : Nat} (h : r ≤ 9218868437227405312) : nanW ((FloatKind.format .f64).word s r) = false := by
  have e : (FloatKind.format .f64).word s r = if s then 9223372036854775808 + r else r := by kernel_rfl
  rw [e, nanF]; split <;> omega
theorem nearest_nan (s : Bool) (m : Nat) (p : Int) : nanW ((FloatKind.format .f64).nearest s m p) = false := by
  unfold Ieee.Format.nearest
  split
  · exact word_le (by omega)
  · refine word_le ?_
    have e : (FloatKind.format .f64).infRung = 9218868437227405312 := by kernel_rfl
    simp only [e]
    exact Nat.min_le_right _ _
theorem write_num (s : Bool) (m : Nat) (p : Int) : nanW ((FloatKind.format .f64).write (.number s m p)) = false := nearest_nan s m p
theorem write_inf (s : Bool) : nanW ((FloatKind.format .f64).write (.infinity s)) = false := by
  have e : (FloatKind.format .f64).write (.infinity s) = (FloatKind.format .f64).word s 9218868437227405312 := by kernel_rfl
  rw [e]; exact word_le (by omega)
theorem write_lt64 (d : Ieee.Datum) : (FloatKind.format .f64).write d < 18446744073709551616 := Ieee.Format.write_lt _ d
noncomputable def subF (x y : Nat) : Nat := (floatBits .sub .f64 x y).getD 0
noncomputable def mulF (x y : Nat) : Nat := (floatBits .mul .f64 x y).getD 0
noncomputable def addF (x y : Nat) : Nat := (floatBits .add .f64 x y).getD 0
noncomputable def divF (x y : Nat) : Nat := (floatBits .quo .f64 x y).getD 0
theorem some_of {d : Ieee.Datum} {o : Option Nat} (h : o = some ((FloatKind.format .f64).write d)) (hd : nanW ((FloatKind.format .f64).write d) = false) : o = some (o.getD 0) ∧ nanW (o.getD 0) = false ∧ o.getD 0 < 18446744073709551616 := by
  subst h; exact ⟨rfl, hd, write_lt64 d⟩
theorem sub_some {x y : Nat} (hx : numW x) (hy : numW y) : floatBits .sub .f64 x y = some (subF x y) ∧ nanW (subF x y) = false ∧ subF x y < 18446744073709551616 := by
  unfold subF
  show ((FloatKind.format .f64).sub x y) = some (((FloatKind.format .f64).sub x y).getD 0) ∧ nanW (((FloatKind.format .f64).sub x y).getD 0) = false ∧ ((FloatKind.format .f64).sub x y).getD 0 < 18446744073709551616
  unfold Ieee.Format.sub
  rw [read_num hx, read_num hy]
  exact some_of rfl (write_num _ _ _)
theorem add_some {x y : Nat} (hx : numW x) (hy : nanW y = false) : floatBits .add .f64 x y = some (addF x y) ∧ nanW (addF x y) = false ∧ addF x y < 18446744073709551616 := by
  unfold addF
  show ((FloatKind.format .f64).add x y) = some (((FloatKind.format .f64).add x y).getD 0) ∧ nanW (((FloatKind.format .f64).add x y).getD 0) = false ∧ ((FloatKind.format .f64).add x y).getD 0 < 18446744073709551616
  unfold Ieee.Format.add
  rw [read_num hx]
  rcases cases_w y with h | h | h
  · rw [read_num h]; exact some_of rfl (write_num _ _ _)
  · rw [read_inf h]; exact some_of rfl (write_inf _)
  · rw [h] at hy; cases hy
theorem mul_some {x y : Nat} (hx : numW x) (h0 : x % 9223372036854775808 ≠ 0) (hy : nanW y = false) : floatBits .mul .f64 x y = some (mulF x y) ∧ nanW (mulF x y) = false ∧ mulF x y < 18446744073709551616 := by
  have hm : magW x ≠ 0 := fun h => h0 (mag_zero.1 h)
  unfold mulF
  show ((FloatKind.format .f64).mul x y) = some (((FloatKind.format .f64).mul x y).getD 0) ∧ nanW (((FloatKind.format .f64).mul x y).getD 0) = false ∧ ((FloatKind.format .f64).mul x y).getD 0 < 18446744073709551616
  unfold Ieee.Format.mul
  rw [read_num hx]
  rcases cases_w y with h | h | h
  · rw [read_num h]; exact some_of rfl (write_num _ _ _)
  · rw [read_inf h]
    have e : Ieee.Datum.product (.number (ngW x) (magW x) (plW x)) (.infinity (ngW y)) = some (.infinity (ngW y ^^ ngW x)) := by
      show (if magW x = 0 then none else some (Ieee.Datum.infinity (ngW y ^^ ngW x))) = _
      exact if_neg hm
    rw [e]; exact some_of rfl (write_inf _)
  · rw [h] at hy; cases hy

/-! ## Values that the kernel does not look into -/
theorem opq_ex {α : Type} (a : α) : ∃ b : α, b = a := ⟨a, rfl⟩
noncomputable def opq {α : Type} (a : α) : α := Classical.choose (opq_ex a)
theorem opq_eq {α : Type} (a : α) : opq a = a := Classical.choose_spec (opq_ex a)
noncomputable def uI (n : Nat) : Int := opq (n : Int)
theorem uI_eq (n : Nat) : uI n = n := opq_eq _

/-! ## The page's numbers -/
def bitsV (x : Nat) : Int := if nanW x = true then 18446744073709551615 else if x < 9223372036854775808 then x + 9223372036854775808 else 18446744073709551615 - x
def cmpV (x y : Nat) : Int := if bitsV x < bitsV y then -1 else if bitsV x > bitsV y then 1 else 0
def clampV (x a b : Nat) : Nat := if nanW x = true ∨ nanW a = true ∨ nanW b = true then 9221120237041090561 else if cmpV x a < 0 ∨ cmpV a b > 0 then a else if cmpV x b > 0 then b else x
abbrev f1W : Nat := 4607182418800017408
theorem bits_nan {x : Nat} (h : nanW x = true) : bitsV x = 18446744073709551615 := if_pos h
theorem bits_lo {x : Nat} (h : nanW x = false) (hx : x < 9223372036854775808) : bitsV x = x + 9223372036854775808 := by
  unfold bitsV; rw [h]; simp [hx]
theorem bits_hi {x : Nat} (h : nanW x = false) (hx : ¬ x < 9223372036854775808) : bitsV x = 18446744073709551615 - x := by
  unfold bitsV; rw [h]; simp [hx]
theorem bits_one : bitsV f1W = 13830554455654793216 := by decide
theorem bits_zero : bitsV 0 = 9223372036854775808 := by decide
theorem cmp_lt {x y : Nat} : cmpV x y < 0 ↔ bitsV x < bitsV y := by unfold cmpV; repeat' split
                                                                    all_goals omega
theorem cmp_gt {x y : Nat} : cmpV x y > 0 ↔ bitsV x > bitsV y := by unfold cmpV; repeat' split
                                                                    all_goals omega
theorem bits_range {x : Nat} (hx : x < 18446744073709551616) : 0 ≤ bitsV x ∧ bitsV x ≤ 18446744073709551615 := by
  unfold bitsV; repeat' split
  all_goals omega
/-- From 0 to 1 in the order of all. -/
theorem unit_word {x : Nat} (hx : x < 18446744073709551616) (h0 : bitsV 0 ≤ bitsV x) (h1 : bitsV x ≤ bitsV f1W) : nanW x = false ∧ x ≤ f1W := by
  rw [bits_zero] at h0
  rw [bits_one] at h1
  cases hn : nanW x with
  | true => rw [bits_nan hn] at h1; omega
  | false =>
    refine ⟨rfl, ?_⟩
    by_cases h : x < 9223372036854775808
    · rw [bits_lo hn h] at h1; show x ≤ 4607182418800017408; omega
    · rw [bits_hi hn h] at h0; omega
theorem unit_num {x : Nat} (h : x ≤ f1W) : numW x := by
  have : x ≤ 4607182418800017408 := h
  unfold numW; omega
theorem clamp_unit {x : Nat} (hx : x < 18446744073709551616) (hn : nanW x = false) : clampV x 0 f1W ≤ f1W := by
  unfold clampV
  rw [if_neg (by simp [hn]; decide)]
  split
  · decide
  · rename_i h
    have h' : ¬ cmpV x 0 < 0 := fun e => h (.inl e)
    rw [cmp_lt] at h'
    split
    · exact Nat.le_refl _
    · rename_i h2
      rw [cmp_gt] at h2
      exact (unit_word hx (by omega) (by omega)).2
theorem clamp_nan {x a b : Nat} (h : nanW x = true) : clampV x a b = 9221120237041090561 := if_pos (.inl h)
theorem clamp_lt {x a b : Nat} (hx : x < 18446744073709551616) (ha : a < 18446744073709551616) (hb : b < 18446744073709551616) : clampV x a b < 18446744073709551616 := by
  unfold clampV; repeat' split
  all_goals omega
/-- Equal to zero, from 0 to 1: it is zero. -/
theorem unit_zero {x : Nat} (h : x ≤ f1W) : (fo x 0 == some .eq) = decide (x = 0) := by
  have h1 : x ≤ 4607182418800017408 := h
  by_cases h0 : x = 0
  · subst h0; rw [fo_self]; rfl
  · unfold fo Ieee.Format.order
    have hm : magW x ≠ 0 := fun e => h0 (by have := mag_zero.1 e; omega)
    have hg : ngW x = false := by
      unfold ngW
      have : x / 9223372036854775808 = 0 := by omega
      rw [this]; rfl
    have e0 : (FloatKind.format .f64).read 0 = .number false 0 (-1074) := by kernel_rfl
    rw [read_num (unit_num h), e0, hg]
    rw [decide_eq_false h0]
    simp only [Ieee.Datum.order]
    have hlt : ∀ (m k k2 : Nat), m ≠ 0 → (some (compare (Ieee.signed false m k) (Ieee.signed false 0 k2)) == some Ordering.eq) = false := by
      intro m k k2 hm
      have : compare (Ieee.signed false m k) (Ieee.signed false 0 k2) ≠ .eq := by
        intro e
        have := Std.LawfulEqOrd.eq_of_compare e
        simp only [Ieee.signed, Bool.false_eq_true, if_false] at this
        have : m <<< k = 0 <<< k2 := by exact_mod_cast this
        rw [Nat.shiftLeft_eq, Nat.shiftLeft_eq, Nat.zero_mul] at this
        rcases Nat.mul_eq_zero.1 this with h | h
        · exact hm h
        · have := Nat.two_pow_pos k; omega
      simpa using this
    exact hlt _ _ _ hm
/-- A weight. -/
theorem weight_num {w : Nat} (h0 : (fo w 0 == some .gt) = true) (h1 : (fo w f1W == some .lt || fo w f1W == some .eq) = true) : numW w ∧ w % 9223372036854775808 ≠ 0 := by
  have e0 : (FloatKind.format .f64).read 0 = .number false 0 (-1074) := by kernel_rfl
  have e1 : (FloatKind.format .f64).read f1W = .number false 4503599627370496 (-52) := by kernel_rfl
  unfold fo Ieee.Format.order at h0 h1
  rw [e0] at h0
  rw [e1] at h1
  rcases cases_w w with h | h | h
  · refine ⟨h, fun hz => ?_⟩
    rw [read_num h, mag_zero.2 hz] at h0
    have hs : ∀ s k, Ieee.signed s 0 k = 0 := by intro s k; cases s <;> simp [Ieee.signed]
    simp only [Ieee.Datum.order, hs] at h0
    rw [cmp_selfI] at h0
    cases h0
  · rw [read_inf h] at h0 h1
    cases hs : ngW w with
    | true => rw [hs] at h0; cases h0
    | false => rw [hs] at h1; cases h1
  · obtain ⟨t, e⟩ := read_nan h
    rw [e] at h0; cases h0

noncomputable def bitsO (x : Nat) : Int := opq (bitsV x)
theorem bitsO_eq (x : Nat) : bitsO x = bitsV x := opq_eq _
noncomputable def cmpO (x y : Nat) : Int := opq (cmpV x y)
theorem cmpO_eq (x y : Nat) : cmpO x y = cmpV x y := opq_eq _
noncomputable def clampO (x a b : Nat) : Nat := opq (clampV x a b)
theorem clampO_eq (x a b : Nat) : clampO x a b = clampV x a b := opq_eq _
/-! ## The page's healths -/
def healthV (s : Nat) (c : Int) : Bool := if c < 0 ∨ c > 1099511627776 then false else if c = 0 then nanW s else decide (¬ cmpV s 0 < 0 ∧ ¬ cmpV s f1W > 0)
noncomputable def healthO (s : Nat) (c : Int) : Bool := opq (healthV s c)
theorem healthO_eq (s : Nat) (c : Int) : healthO s c = healthV s c := opq_eq _
/-- What makes a weight. -/
noncomputable def weightV (w : Nat) : Bool := (fo w 0 == some .gt) && (fo w f1W == some .lt || fo w f1W == some .eq)
noncomputable def weightO (w : Nat) : Bool := opq (weightV w)
theorem weightO_eq (w : Nat) : weightO w = weightV w := opq_eq _
noncomputable def noteV (s : Nat) (c : Int) (x w : Nat) : Nat := if nanW x = true then s else if c = 0 then clampV x 0 f1W else clampV (addF s (mulF w (subF (clampV x 0 f1W) s))) 0 f1W
noncomputable def noteO (s : Nat) (c : Int) (x w : Nat) : Nat := opq (noteV s c x w)
theorem noteO_eq (s : Nat) (c : Int) (x w : Nat) : noteO s c x w = noteV s c x w := opq_eq _
def noteN (c : Int) (x : Nat) : Int := if nanW x = true then c else if c + 1 < 1099511627776 then c + 1 else 1099511627776
noncomputable def noteC (c : Int) (x : Nat) : Int := opq (noteN c x)
theorem noteC_eq (c : Int) (x : Nat) : noteC c x = noteN c x := opq_eq _
noncomputable def goodO (s : Nat) (c : Int) (f : Nat) : Bool := opq (decide (c = 0) || !(fo s f == some .lt))
theorem goodO_eq (s : Nat) (c : Int) (f : Nat) : goodO s c f = (decide (c = 0) || !(fo s f == some .lt)) := opq_eq _
theorem nan_of {x : Nat} {b : Bool} (h : (fo x x == some .eq) = b) : nanW x = !b := by rw [fo_self] at h; rw [← h, Bool.not_not]

theorem isnum_of {x : Nat} (h : (fo x x == some .eq) = true) : nanW x = false := nan_of h
theorem isnan_of {x : Nat} (h : (fo x x == some .eq) = false) : nanW x = true := nan_of h
theorem wr_i64 {n : Int} (h : -9223372036854775808 ≤ n) (h' : n < 9223372036854775808) : wr .i64 n = n := by
  show wrapS 18446744073709551616 9223372036854775808 n = n
  unfold wrapS
  cases hd : decide ((9223372036854775808 : Int) ≤ n % 18446744073709551616) with
  | true => have := of_decide_eq_true hd; show n % 18446744073709551616 - 18446744073709551616 = n; omega
  | false => have := of_decide_eq_false hd; show n % 18446744073709551616 = n; omega

/-! ## Leaves -/
theorem b_nan {x : Nat} (h : (fo x x == some .eq) = false) : (18446744073709551615 : Int) = bitsO x := by
  rw [bitsO_eq, bits_nan (nan_of h)]
theorem c_lt {x y : Nat} (h : bitsO x < bitsO y) : (-1 : Int) = cmpO x y := by
  rw [bitsO_eq, bitsO_eq] at h; rw [cmpO_eq]; unfold cmpV; rw [if_pos h]
theorem c_gt {x y : Nat} (h : ¬ bitsO x < bitsO y) (h2 : bitsO x > bitsO y) : (1 : Int) = cmpO x y := by
  rw [bitsO_eq, bitsO_eq] at h h2; rw [cmpO_eq]; unfold cmpV; rw [if_neg h, if_pos h2]
theorem c_eq {x y : Nat} (h : ¬ bitsO x < bitsO y) (h2 : ¬ bitsO x > bitsO y) : (0 : Int) = cmpO x y := by
  rw [bitsO_eq, bitsO_eq] at h h2; rw [cmpO_eq]; unfold cmpV; rw [if_neg h, if_neg h2]
theorem clampO_lt {x a b : Nat} (hx : x < 18446744073709551616) (ha : a < 18446744073709551616) (hb : b < 18446744073709551616) : clampO x a b < 18446744073709551616 := by rw [clampO_eq]; exact clamp_lt hx ha hb
/-- Clamped from 0 to 1. -/
theorem clamp_zero {x : Nat} (hx : x < 18446744073709551616) (h : (fo (clampO x 0 f1W) 0 == some .eq) = true) : (0 : Nat) = clampO x 0 f1W := by
  cases hn : nanW x with
  | true => rw [clampO_eq, clamp_nan hn] at h; exact absurd h (by decide +kernel)
  | false =>
    have h1 := clamp_unit hx hn
    rw [← clampO_eq] at h1
    rw [unit_zero h1] at h
    exact (of_decide_eq_true h).symm
theorem clamp_isnan {x : Nat} (hx : x < 18446744073709551616) {b : Bool} (h : (fo (clampO x 0 f1W) (clampO x 0 f1W) == some .eq) = b) : nanW x = !b := by
  rw [fo_self, clampO_eq] at h
  cases hn : nanW x with
  | true => rw [clamp_nan hn] at h; rw [← h]; decide
  | false =>
    rw [(unit_num (clamp_unit hx hn)).nan] at h
    rw [← h]; rfl
theorem clamp_isnum {x : Nat} (hx : x < 18446744073709551616) (h : (fo (clampO x 0 f1W) (clampO x 0 f1W) == some .eq) = true) : nanW x = false := clamp_isnan hx h
theorem clamp_nonum {x : Nat} (hx : x < 18446744073709551616) (h : (fo (clampO x 0 f1W) (clampO x 0 f1W) == some .eq) = false) : nanW x = true := clamp_isnan hx h
/-- A health that may be. -/
theorem health_of {s : Nat} {c : Int} : healthO s c = true ↔ 0 ≤ c ∧ c ≤ 1099511627776 ∧ (c = 0 → nanW s = true) ∧ (c ≠ 0 → ¬ cmpV s 0 < 0 ∧ ¬ cmpV s f1W > 0) := by
  rw [healthO_eq]; unfold healthV
  split
  · constructor
    · intro h; cases h
    · intro h; omega
  · split
    · constructor
      · intro h; exact ⟨by omega, by omega, fun _ => h, fun h' => absurd ‹c = 0› h'⟩
      · intro h; exact h.2.2.1 ‹c = 0›
    · rw [decide_eq_true_eq]
      constructor
      · intro h; exact ⟨by omega, by omega, fun h' => absurd h' ‹¬ c = 0›, fun _ => h⟩
      · intro h; exact h.2.2.2 ‹¬ c = 0›
theorem health_unit {s : Nat} {c : Int} (hs : s < 18446744073709551616) (h : healthO s c = true) (h0 : c ≠ 0) : nanW s = false ∧ s ≤ f1W := by
  obtain ⟨_, _, _, h1⟩ := health_of.1 h
  obtain ⟨h1, h2⟩ := h1 h0
  rw [cmp_lt] at h1
  rw [cmp_gt] at h2
  exact unit_word hs (by omega) (by omega)
theorem same_clamp {s : Nat} (hs : s < 18446744073709551616) (hn : nanW s = false) : (cmpO s (clampO s 0 f1W) == 0) = decide (¬ cmpV s 0 < 0 ∧ ¬ cmpV s f1W > 0) := by
  rw [cmpO_eq, clampO_eq]
  have hz : nanW 0 = false := by decide
  have h1 : nanW f1W = false := by decide
  have h01 : ¬ cmpV 0 f1W > 0 := by decide
  unfold clampV
  rw [if_neg (by simp [hn, hz, h1])]
  split
  · rename_i h
    rcases h with h | h
    · rw [decide_eq_false (fun h' => h'.1 h)]
      have : cmpV s 0 ≠ 0 := by omega
      simpa using this
    · exact absurd h h01
  · rename_i h
    split
    · rename_i h2
      rw [decide_eq_false (fun h' => h'.2 h2)]
      have : cmpV s f1W ≠ 0 := by omega
      simpa using this
    · rename_i h2
      rw [decide_eq_true ⟨fun h' => h (.inl h'), h2⟩]
      have : cmpV s s = 0 := by unfold cmpV; simp
      simpa using this
/-- The arithmetic of a note. -/
theorem note_arith {s x w : Nat} {c : Int} (hs : s < 18446744073709551616) (hx : x < 18446744073709551616) (h : healthO s c = true) (h0 : c ≠ 0) (hn : nanW x = false) (hw : weightO w = true) :
    (floatBits .sub .f64 (clampO x 0 f1W) s).isSome = true ∧ (floatBits .mul .f64 w (subF (clampO x 0 f1W) s)).isSome = true ∧ (floatBits .add .f64 s (mulF w (subF (clampO x 0 f1W) s))).isSome = true ∧ addF s (mulF w (subF (clampO x 0 f1W) s)) < 18446744073709551616 := by
  obtain ⟨h1, h2⟩ := health_unit hs h h0
  have hc := clamp_unit hx hn
  rw [← clampO_eq] at hc
  rw [weightO_eq] at hw
  unfold weightV at hw
  rw [Bool.and_eq_true] at hw
  obtain ⟨hw1, hw2⟩ := weight_num hw.1 hw.2
  obtain ⟨a1, a2, a3⟩ := sub_some (unit_num hc) (unit_num h2)
  obtain ⟨b1, b2, b3⟩ := mul_some hw1 hw2 a2
  obtain ⟨c1, c2, c3⟩ := add_some (unit_num h2) b2
  rw [a1, b1, c1]
  exact ⟨rfl, rfl, rfl, c3⟩
theorem note_nan {s x w : Nat} {c : Int} (hn : nanW x = true) : s = noteO s c x w ∧ c = noteC c x := by
  rw [noteO_eq, noteC_eq]; unfold noteV noteN; simp [hn]
theorem note_first {s x w : Nat} {c : Int} (hn : nanW x = false) (h0 : c = 0) : clampO x 0 f1W = noteO s c x w ∧ 1 = noteC c x := by
  rw [noteO_eq, noteC_eq, clampO_eq]; unfold noteV noteN; simp [hn, h0]
theorem note_more {s x w : Nat} {c : Int} (hn : nanW x = false) (h0 : c ≠ 0) : clampO (addF s (mulF w (subF (clampO x 0 f1W) s))) 0 f1W = noteO s c x w := by
  rw [noteO_eq, clampO_eq, clampO_eq]; unfold noteV; simp [hn, h0]
theorem note_cnt {x : Nat} {c : Int} (hn : nanW x = false) : (if c + 1 < 1099511627776 then c + 1 else 1099511627776) = noteC c x := by
  rw [noteC_eq]; unfold noteN; simp [hn]
theorem bits_or {x : Nat} (h : (x : Int) < 9223372036854775808) : wr .u64 (↑(BitVec.ofInt 64 (x : Int) ||| BitVec.ofInt 64 9223372036854775808).toNat) = (x : Int) + 9223372036854775808 := by
  have h1 : x < 9223372036854775808 := by omega
  have e : (BitVec.ofInt 64 (x : Int) ||| BitVec.ofInt 64 9223372036854775808).toNat = x + 9223372036854775808 := by
    have e1 : (BitVec.ofInt 64 (x : Int)).toNat = x := by simp [BitVec.toNat_ofInt]; omega
    have e2 : (BitVec.ofInt 64 9223372036854775808).toNat = 9223372036854775808 := by decide
    rw [BitVec.toNat_or, e1, e2]
    have := Nat.two_pow_add_eq_or_of_lt (i := 63) (b := x) (by omega) 1
    rw [Nat.or_comm]
    simpa [Nat.add_comm] using this.symm
  rw [e]
  show ((x + 9223372036854775808 : Nat) : Int) % 18446744073709551616 = _
  omega
theorem bits_xor {x : Nat} (h : x < 18446744073709551616) : wr .u64 (↑(BitVec.toNat (BitVec.ofInt 64 18446744073709551615 ^^^ BitVec.ofInt 64 (x : Int)))) = 18446744073709551615 - (x : Int) := by
  have e : BitVec.ofInt 64 18446744073709551615 ^^^ BitVec.ofInt 64 (x : Int) = ~~~ (BitVec.ofInt 64 (x : Int)) := by
    have : BitVec.ofInt 64 18446744073709551615 = BitVec.allOnes 64 := by decide
    rw [this, BitVec.allOnes_xor]
  have e1 : (BitVec.ofInt 64 (x : Int)).toNat = x := by simp [BitVec.toNat_ofInt]; omega
  rw [e, BitVec.toNat_not, e1]
  show ((2 ^ 64 - 1 - x : Nat) : Int) % 18446744073709551616 = _
  omega
theorem note_cnt2 {s x : Nat} {c : Int} (h : healthO s c = true) (hn : nanW x = false) : (if (1099511627776 : Int) < wr .i64 (c + 1) then 1099511627776 else wr .i64 (c + 1)) = noteC c x := by
  obtain ⟨h0, h1, _⟩ := health_of.1 h
  rw [wr_i64 (by omega) (by omega), noteC_eq]
  unfold noteN
  rw [hn]
  simp only [Bool.false_eq_true, if_false]
  repeat' split
  all_goals omega
theorem health_zero {s : Nat} {c : Int} (h : healthO s c = true) (h0 : ¬ c > 0) : c = 0 := by
  obtain ⟨h1, _⟩ := health_of.1 h
  omega
/-- What is told of a health. -/
theorem hm_none {s : Nat} {c : Int} (h0 : c = 0) : (!(fo s s == some .eq)) = healthO s c := by
  subst h0; rw [healthO_eq, fo_self, Bool.not_not]; rfl
theorem hm_bad {s : Nat} {c : Int} (h : c < 0 ∨ c > 1099511627776) : false = healthO s c := by
  rw [healthO_eq]; unfold healthV; rw [if_pos h]
theorem hm_eq {s : Nat} {c : Int} (hs : s < 18446744073709551616) (h : c > 0) (h1 : c ≤ 1099511627776) : ((cmpO s (clampO s 0 f1W) == 0) && (fo s s == some .eq)) = healthO s c := by
  rw [healthO_eq, fo_self]; unfold healthV; rw [if_neg (by omega), if_neg (by omega)]
  cases hn : nanW s with
  | true =>
    rw [Bool.not_true, Bool.and_false]
    symm
    refine decide_eq_false fun h => h.2 ?_
    rw [cmp_gt, bits_nan hn, bits_one]; decide
  | false => rw [same_clamp hs hn]; simp
theorem hm_yes {s : Nat} {c : Int} (hs : s < 18446744073709551616) (h : c > 0) (h1 : c ≤ 1099511627776) (h4 : cmpO s (clampO s 0 f1W) = 0) : (fo s s == some .eq) = healthO s c := by
  rw [← hm_eq hs h h1, h4]; rfl
theorem hm_no {s : Nat} {c : Int} (hs : s < 18446744073709551616) (h : c > 0) (h1 : c ≤ 1099511627776) (h4 : cmpO s (clampO s 0 f1W) ≠ 0) : false = healthO s c := by
  rw [← hm_eq hs h h1]; simp [h4]
theorem hm_low {s : Nat} {c : Int} (h0 : c ≠ 0) (h4 : ¬ cmpO s 0 ≥ 0) : false = healthO s c := by
  rw [cmpO_eq] at h4
  rw [healthO_eq]; unfold healthV
  split
  · rfl
  · rw [decide_eq_false (fun h => h.1 (by omega))]
theorem hm_ref {s : Nat} {c : Int} (h : c ≥ 0) (h1 : c ≤ 1099511627776) (h0 : c ≠ 0) (h4 : cmpO s 0 ≥ 0) : decide (cmpO s f1W ≤ 0) = healthO s c := by
  rw [cmpO_eq] at h4
  rw [healthO_eq, cmpO_eq]; unfold healthV; rw [if_neg (by omega), if_neg h0]
  exact decide_eq_decide.2 ⟨fun h => ⟨by omega, by omega⟩, fun h => by omega⟩
theorem good_zero {s f : Nat} {c : Int} (h : c = 0) : true = goodO s c f := by rw [goodO_eq]; simp [h]
theorem good_more {s f : Nat} {c : Int} (h : c ≠ 0) : (!(fo s f == some .lt)) = goodO s c f := by rw [goodO_eq]; simp [h]
theorem good_nan {s f : Nat} {c : Int} (h : (fo f f == some .eq) = false) : true = goodO s c f := by
  have e : (fo s f == some .lt) = false := by
    obtain ⟨t, e⟩ := read_nan (isnan_of h)
    unfold fo Ieee.Format.order
    rw [e]
    generalize (FloatKind.format .f64).read s = d
    cases d <;> rfl
  rw [goodO_eq, e]; simp
theorem cl_nan {x a b : Nat} (h : (fo x x == some .eq) = false ∨ (fo a a == some .eq) = false ∨ (fo b b == some .eq) = false) : (9221120237041090561 : Nat) = clampO x a b := by
  rw [clampO_eq]; unfold clampV
  rw [if_pos]
  rcases h with h | h | h
  · exact .inl (isnan_of h)
  · exact .inr (.inl (isnan_of h))
  · exact .inr (.inr (isnan_of h))
theorem cl_num {x a b : Nat} (h1 : (fo x x == some .eq) = true) (h2 : (fo a a == some .eq) = true) (h3 : (fo b b == some .eq) = true) : clampO x a b = if cmpO x a < 0 ∨ cmpO a b > 0 then a else if cmpO x b > 0 then b else x := by
  rw [clampO_eq, cmpO_eq, cmpO_eq, cmpO_eq]; unfold clampV
  rw [if_neg]
  rw [isnum_of h1, isnum_of h2, isnum_of h3]; simp
theorem cl_lo {x a b : Nat} (h1 : (fo x x == some .eq) = true) (h2 : (fo a a == some .eq) = true) (h3 : (fo b b == some .eq) = true) (h : cmpO x a < 0 ∨ cmpO a b > 0) : a = clampO x a b := by rw [cl_num h1 h2 h3, if_pos h]
theorem cl_hi {x a b : Nat} (h1 : (fo x x == some .eq) = true) (h2 : (fo a a == some .eq) = true) (h3 : (fo b b == some .eq) = true) (h : ¬ cmpO x a < 0) (h' : ¬ cmpO a b > 0) (h4 : cmpO x b > 0) : b = clampO x a b := by rw [cl_num h1 h2 h3, if_neg (by omega), if_pos h4]
theorem cl_id {x a b : Nat} (h1 : (fo x x == some .eq) = true) (h2 : (fo a a == some .eq) = true) (h3 : (fo b b == some .eq) = true) (h : ¬ cmpO x a < 0) (h' : ¬ cmpO a b > 0) (h4 : ¬ cmpO x b > 0) : x = clampO x a b := by rw [cl_num h1 h2 h3, if_neg (by omega), if_neg h4]
theorem eqf_same (x : Nat) : (uI x == uI x) = true := by simp
theorem eqf_abs {b c : Bool} (h : b = true) (h' : b = false) : c = true := by rw [h] at h'; cases h'
theorem eqf_nan {x : Nat} (h : (fo x x == some .eq) = false) : (fo x x != some .eq) = true := by rw [bne, h]; rfl
theorem weight_of {w : Nat} (h0 : (fo w 0 == some .gt) = true) (h1 : (fo w f1W == some .lt || fo w f1W == some .eq) = true) : weightO w = true := by
  rw [weightO_eq]; unfold weightV; rw [h0, h1]; rfl
theorem noteO_lt {s x w : Nat} {c : Int} (hs : s < 18446744073709551616) (hx : x < 18446744073709551616) (h : healthO s c = true) (hw : weightO w = true) : noteO s c x w < 18446744073709551616 := by
  rw [noteO_eq]; unfold noteV
  split
  · exact hs
  · rename_i hn
    have hn : nanW x = false := by simpa using hn
    split
    · exact clamp_lt hx (by decide) (by decide)
    · rename_i h0
      have := (note_arith hs hx h h0 hn hw).2.2.2
      rw [clampO_eq] at this
      exact clamp_lt this (by decide) (by decide)
/-- A breaker that may be. -/
def brkV (st f u : Int) (s : Nat) (c : Int) : Bool := decide (0 ≤ st ∧ st ≤ 2 ∧ 0 ≤ f ∧ f ≤ 1048576 ∧ 0 ≤ u ∧ u ≤ 2199023255552 ∧ (st = 1 ∨ u = 0)) && healthV s c
noncomputable def brkO (st f u : Int) (s : Nat) (c : Int) : Bool := opq (brkV st f u s c)
theorem brkO_eq (st f u : Int) (s : Nat) (c : Int) : brkO st f u s c = brkV st f u s c := opq_eq _
theorem brk_of {st f u : Int} {s : Nat} {c : Int} : brkO st f u s c = true ↔ (0 ≤ st ∧ st ≤ 2 ∧ 0 ≤ f ∧ f ≤ 1048576 ∧ 0 ≤ u ∧ u ≤ 2199023255552 ∧ (st = 1 ∨ u = 0)) ∧ healthO s c = true := by
  rw [brkO_eq, healthO_eq]; unfold brkV; rw [Bool.and_eq_true, decide_eq_true_eq]
theorem bk_no {st f u : Int} {s : Nat} {c : Int} (h : ¬ (0 ≤ st ∧ st ≤ 2 ∧ 0 ≤ f ∧ f ≤ 1048576 ∧ 0 ≤ u ∧ u ≤ 2199023255552 ∧ (st = 1 ∨ u = 0))) : false = brkO st f u s c := by
  rw [brkO_eq]; unfold brkV; rw [decide_eq_false h]; rfl
theorem bk_nh {st f u : Int} {s : Nat} {c : Int} (h : healthO s c = false) : false = brkO st f u s c := by
  rw [healthO_eq] at h; rw [brkO_eq]; unfold brkV; rw [h, Bool.and_false]
theorem bk_h {st f u : Int} {s : Nat} {c : Int} (h : 0 ≤ st ∧ st ≤ 2 ∧ 0 ≤ f ∧ f ≤ 1048576 ∧ 0 ≤ u ∧ u ≤ 2199023255552 ∧ (st = 1 ∨ u = 0)) : healthO s c = brkO st f u s c := by
  rw [healthO_eq, brkO_eq]; unfold brkV; rw [decide_eq_true h]; rfl
theorem bk_y {st f u : Int} {s : Nat} {c : Int} (h : 0 ≤ st ∧ st ≤ 2 ∧ 0 ≤ f ∧ f ≤ 1048576 ∧ 0 ≤ u ∧ u ≤ 2199023255552 ∧ (st = 1 ∨ u = 0)) (h2 : healthO s c = true) : true = brkO st f u s c := by rw [← bk_h h, h2]
theorem bk_d {st f u : Int} {s : Nat} {c : Int} {p : Prop} [Decidable p] (h : p ↔ 0 ≤ st ∧ st ≤ 2 ∧ 0 ≤ f ∧ f ≤ 1048576 ∧ 0 ≤ u ∧ u ≤ 2199023255552 ∧ (st = 1 ∨ u = 0)) (h2 : healthO s c = true) : decide p = brkO st f u s c := by
  rw [brkO_eq]; rw [healthO_eq] at h2; unfold brkV; rw [h2, Bool.and_true]; exact decide_eq_decide.2 h
theorem b_or {x : Nat} (h : (fo x x == some .eq) = true) (h2 : uI x < 9223372036854775808) : wr .u64 (↑(BitVec.ofInt 64 (uI x) ||| BitVec.ofInt 64 9223372036854775808).toNat) = bitsO x := by
  rw [uI_eq] at *
  rw [bits_or h2, bitsO_eq, bits_lo (nan_of h) (by omega)]
theorem b_xor {x : Nat} (hx : x < 18446744073709551616) (h : (fo x x == some .eq) = true) (h2 : ¬ uI x < 9223372036854775808) : wr .u64 (↑(BitVec.toNat (BitVec.ofInt 64 18446744073709551615 ^^^ BitVec.ofInt 64 (uI x)))) = bitsO x := by
  rw [uI_eq] at *
  rw [bits_xor hx, bitsO_eq, bits_hi (nan_of h) (by omega)]
theorem b_xor2 {x : Nat} (hx : x < 18446744073709551616) (h : (fo x x == some .eq) = true) (h2 : Int.fdiv (uI x) 9223372036854775808 = 1) : wr .u64 (↑(BitVec.toNat (BitVec.ofInt 64 18446744073709551615 ^^^ BitVec.ofInt 64 (uI x)))) = bitsO x := by
  refine b_xor hx h ?_
  rw [uI_eq] at *
  rw [Int.fdiv_eq_ediv_of_nonneg _ (by omega)] at h2
  omega
theorem b_add {x : Nat} (hx : x < 18446744073709551616) (h : (fo x x == some .eq) = true) (h2 : Int.fdiv (uI x) 9223372036854775808 ≠ 1) : wr .u64 (uI x + 9223372036854775808) = bitsO x := by
  rw [uI_eq] at *
  rw [Int.fdiv_eq_ediv_of_nonneg _ (by omega)] at h2
  rw [bitsO_eq, bits_lo (nan_of h) (by omega)]
  show ((x : Int) + 9223372036854775808) % 18446744073709551616 = _
  omega
end Go.Eng
