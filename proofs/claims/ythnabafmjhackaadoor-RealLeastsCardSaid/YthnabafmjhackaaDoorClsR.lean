/- Lemmas about the evaluator of the code. -/
import Derived.Test.YthnabafmjhackaaDoorWinR
import Derived.Test.YthnabafmjhackaaDoorEngMc
set_option linter.all false
set_option linter.deprecated false
set_option maxRecDepth 1000000
set_option maxHeartbeats 4000000
namespace Go.Proofs.TabR
open Go Go.Eng
noncomputable def classV (x : Nat) : Int :=
  if nanW x = true then 0 else if ngW x = true then
    (if 9218868437227405311 < x % 9223372036854775808 then 1 else if 4503599627370496 ≤ x % 9223372036854775808 then 2 else if 0 < x % 9223372036854775808 then 3 else 4)
  else (if 9218868437227405311 < x % 9223372036854775808 then 8 else if 4503599627370496 ≤ x % 9223372036854775808 then 7 else if 0 < x % 9223372036854775808 then 6 else 5)
noncomputable def clsO (x : Nat) : Int := opq (classV x)
theorem clsO_eq (x : Nat) : clsO x = classV x := opq_eq _
theorem sv_gt {x r : Nat} : (decide (svW x > (Vr r : Int))) = (!ngW x && decide (r < x % 9223372036854775808)) := by
  unfold svW
  cases ngW x
  · simp only [Bool.false_eq_true, if_false, Bool.not_false, Bool.true_and, decide_eq_decide, gt_iff_lt, Int.ofNat_lt]; exact Vr_lt_iff
  · simp only [if_true, Bool.not_true, Bool.false_and, decide_eq_false_iff_not]; omega
theorem sv_ge {x r : Nat} (hr : 0 < r) : (decide (svW x ≥ (Vr r : Int))) = (!ngW x && decide (r ≤ x % 9223372036854775808)) := by
  unfold svW
  have h0 : 0 < Vr r := by have := Vr_lt hr; rw [Vr_zero] at this; exact this
  cases ngW x
  · simp only [Bool.false_eq_true, if_false, Bool.not_false, Bool.true_and, decide_eq_decide, ge_iff_le, Int.ofNat_le]; exact Vr_le_iff
  · simp only [if_true, Bool.not_true, Bool.false_and, decide_eq_false_iff_not]; omega
theorem sv_le {x r : Nat} (hr : 0 < r) : (decide (svW x ≤ -(Vr r : Int))) = (ngW x && decide (r ≤ x % 9223372036854775808)) := by
  unfold svW
  have h0 : 0 < Vr r := by have := Vr_lt hr; rw [Vr_zero] at this; exact this
  cases ngW x
  · simp only [Bool.false_eq_true, if_false, Bool.false_and, decide_eq_false_iff_not]; omega
  · simp only [if_true, Bool.true_and, decide_eq_decide]
    rw [Int.neg_le_neg_iff, Int.ofNat_le]; exact Vr_le_iff
theorem sv_lt0 {x : Nat} : (decide (svW x < 0)) = (ngW x && decide (0 < x % 9223372036854775808)) := by
  unfold svW
  cases ngW x
  · simp only [Bool.false_eq_true, if_false, Bool.false_and, decide_eq_false_iff_not]; omega
  · simp only [if_true, Bool.true_and, decide_eq_decide]
    have := @Vr_lt_iff 0 (x % 9223372036854775808)
    rw [Vr_zero] at this; rw [← this]; omega
theorem fo_is {x y : Nat} (hx : nanW x = false) (hy : nanW y = false) : (fo x y == some .gt) = decide (svW x > svW y) ∧ (fo x y == some .lt) = decide (svW x < svW y) ∧
    (fo x y == some .gt || fo x y == some .eq) = decide (svW x ≥ svW y) ∧ (fo x y == some .lt || fo x y == some .eq) = decide (svW x ≤ svW y) := by
  rw [fo_sv hx hy]
  rcases Int.lt_trichotomy (svW x) (svW y) with h | h | h
  · rw [show compare (svW x) (svW y) = .lt from Int.compare_eq_lt.2 h]
    refine ⟨?_, ?_, ?_, ?_⟩ <;> symm
    · exact decide_eq_false (by omega)
    · exact decide_eq_true (by omega)
    · exact decide_eq_false (by omega)
    · exact decide_eq_true (by omega)
  · rw [show compare (svW x) (svW y) = .eq from Int.compare_eq_eq.2 h]
    refine ⟨?_, ?_, ?_, ?_⟩ <;> symm
    · exact decide_eq_false (by omega)
    · exact decide_eq_false (by omega)
    · exact decide_eq_true (by omega)
    · exact decide_eq_true (by omega)
  · rw [show compare (svW x) (svW y) = .gt from Int.compare_eq_gt.2 h]
    refine ⟨?_, ?_, ?_, ?_⟩ <;> symm
    · exact decide_eq_true (by omega)
    · exact decide_eq_false (by omega)
    · exact decide_eq_true (by omega)
    · exact decide_eq_false (by omega)
theorem svp {c : Nat} (h : c < 9223372036854775808) : svW c = (Vr c : Int) := by
  unfold svW; rw [ng_unit h, Nat.mod_eq_of_lt h]; rfl
theorem svn {r : Nat} (h : r < 9223372036854775808) : svW (9223372036854775808 + r) = -(Vr r : Int) := by
  unfold svW; rw [ng_top h, mod_top h]; rfl
theorem xor_top (x : Nat) : (x ^^^ 2 ^ 63) % 9223372036854775808 = x % 9223372036854775808 ∧ ngW (x ^^^ 2 ^ 63) = !ngW x := by
  refine ⟨?_, ?_⟩
  · rw [show (9223372036854775808 : Nat) = 2 ^ 63 from rfl, Nat.xor_mod_two_pow]; simp
  · unfold ngW
    rw [show (9223372036854775808 : Nat) = 2 ^ 63 from rfl, Nat.xor_div_two_pow, show (2 ^ 63 / 2 ^ 63 : Nat) = 1 from rfl]
    have e := @Nat.xor_mod_two_pow (x / 2 ^ 63) 1 1
    rw [show (2 ^ 1 : Nat) = 2 from rfl] at e
    rw [e]
    rcases Nat.mod_two_eq_zero_or_one (x / 2 ^ 63) with h | h <;> rw [h] <;> rfl
theorem xor_nan (x : Nat) : nanW (x ^^^ 2 ^ 63) = nanW x := by unfold nanW; rw [(xor_top x).1]
theorem sv0 : svW 0 = 0 := by rw [svp (c := 0) (by decide), Vr_zero]; rfl
theorem E2 {x : Nat} (hx : nanW x = false) : (fo (x ^^^ 2 ^ 63) 9218868437227405311 == some .gt) = (ngW x && decide (9218868437227405311 < x % 9223372036854775808)) := by
  rw [(fo_is (by rw [xor_nan]; exact hx) (by decide)).1, svp (by decide : 9218868437227405311 < 9223372036854775808), sv_gt, (xor_top x).1, (xor_top x).2, Bool.not_not]
theorem E3 {x : Nat} (hx : nanW x = false) : (fo x 9227875636482146304 == some .lt || fo x 9227875636482146304 == some .eq) = (ngW x && decide (4503599627370496 ≤ x % 9223372036854775808)) := by
  rw [(fo_is hx (by decide)).2.2.2, show svW 9227875636482146304 = -(Vr 4503599627370496 : Int) from svn (r := 4503599627370496) (by decide), sv_le (by decide)]
theorem E4 {x : Nat} (hx : nanW x = false) : (fo x 0 == some .lt) = (ngW x && decide (0 < x % 9223372036854775808)) := by
  rw [(fo_is hx (by decide)).2.1, sv0, sv_lt0]
theorem E5 {x : Nat} (hx : nanW x = false) : (fo x 9218868437227405311 == some .gt) = (!ngW x && decide (9218868437227405311 < x % 9223372036854775808)) := by
  rw [(fo_is hx (by decide)).1, svp (by decide : 9218868437227405311 < 9223372036854775808), sv_gt]
theorem E6 {x : Nat} (hx : nanW x = false) : (fo x 4503599627370496 == some .gt || fo x 4503599627370496 == some .eq) = (!ngW x && decide (4503599627370496 ≤ x % 9223372036854775808)) := by
  rw [(fo_is hx (by decide)).2.2.1, svp (by decide : 4503599627370496 < 9223372036854775808), sv_ge (by decide)]
theorem E7 {x : Nat} (hx : nanW x = false) : (fo x 0 == some .gt) = (!ngW x && decide (0 < x % 9223372036854775808)) := by
  have := @sv_gt x 0
  rw [Vr_zero] at this
  rw [(fo_is hx (by decide)).1, sv0]; exact this
theorem E8 {x : Nat} (hx : x < 18446744073709551616) : (wr .i64 (uI x) < 0) ↔ ngW x = true := by
  rw [uI_eq]
  show wrapS 18446744073709551616 9223372036854775808 (x : Int) < 0 ↔ _
  unfold wrapS ngW
  simp only [beq_iff_eq]
  cases hd : decide ((9223372036854775808 : Int) ≤ (x : Int) % 18446744073709551616) with
  | true => have := of_decide_eq_true hd; show (x : Int) % 18446744073709551616 - 18446744073709551616 < 0 ↔ _; omega
  | false => have := of_decide_eq_false hd; show (x : Int) % 18446744073709551616 < 0 ↔ _; omega
theorem l14_0 {x : Nat} (h1 : (fo x x == some .eq) = false) : (0 : Int) = clsO x := by rw [clsO_eq]; unfold classV; rw [if_pos (isnan_of h1)]
theorem l14_1 {x : Nat} (h1 : (fo x x == some .eq) = true) (h2 : (fo (x ^^^ 2 ^ 63) 9218868437227405311 == some .gt) = true) : (1 : Int) = clsO x := by
  have hn := isnum_of h1
  rw [E2 hn] at h2
  rw [clsO_eq]; unfold classV; rw [hn]
  generalize ngW x = s at *
  cases s <;> simp at * ; omega
theorem l14_2 {x : Nat} (h1 : (fo x x == some .eq) = true) (h2 : (fo (x ^^^ 2 ^ 63) 9218868437227405311 == some .gt) = false) (h3 : (fo x 9227875636482146304 == some .lt || fo x 9227875636482146304 == some .eq) = true) : (2 : Int) = clsO x := by
  have hn := isnum_of h1
  rw [E2 hn] at h2; rw [E3 hn] at h3
  rw [clsO_eq]; unfold classV; rw [hn]
  generalize ngW x = s at *
  cases s <;> simp at *
  rw [if_neg (by omega), if_pos h3]
theorem l14_3 {x : Nat} (h1 : (fo x x == some .eq) = true) (h2 : (fo (x ^^^ 2 ^ 63) 9218868437227405311 == some .gt) = false) (h3 : (fo x 9227875636482146304 == some .lt || fo x 9227875636482146304 == some .eq) = false)
    (h4 : (fo x 0 == some .lt) = true) : (3 : Int) = clsO x := by
  have hn := isnum_of h1
  rw [E2 hn] at h2; rw [E3 hn] at h3; rw [E4 hn] at h4
  rw [clsO_eq]; unfold classV; rw [hn]
  generalize ngW x = s at *
  cases s <;> simp at *
  rw [if_neg (by omega), if_neg (by omega), if_pos h4]
theorem l14_8 {x : Nat} (h1 : (fo x x == some .eq) = true) (h5 : (fo x 9218868437227405311 == some .gt) = true) : (8 : Int) = clsO x := by
  have hn := isnum_of h1
  rw [E5 hn] at h5
  rw [clsO_eq]; unfold classV; rw [hn]
  generalize ngW x = s at *
  cases s <;> simp at *
  intro hh; omega
theorem l14_7 {x : Nat} (h1 : (fo x x == some .eq) = true) (h5 : (fo x 9218868437227405311 == some .gt) = false) (h6 : (fo x 4503599627370496 == some .gt || fo x 4503599627370496 == some .eq) = true) : (7 : Int) = clsO x := by
  have hn := isnum_of h1
  rw [E5 hn] at h5; rw [E6 hn] at h6
  rw [clsO_eq]; unfold classV; rw [hn]
  generalize ngW x = s at *
  cases s <;> simp at *
  rw [if_neg (by omega), if_pos h6]
theorem l14_6 {x : Nat} (h1 : (fo x x == some .eq) = true) (h5 : (fo x 9218868437227405311 == some .gt) = false) (h6 : (fo x 4503599627370496 == some .gt || fo x 4503599627370496 == some .eq) = false) (h7 : (fo x 0 == some .gt) = true) : (6 : Int) = clsO x := by
  have hn := isnum_of h1
  rw [E5 hn] at h5; rw [E6 hn] at h6; rw [E7 hn] at h7
  rw [clsO_eq]; unfold classV; rw [hn]
  generalize ngW x = s at *
  cases s <;> simp at *
  rw [if_neg (by omega), if_neg (by omega), if_pos h7]
theorem l14_z {x : Nat} (h1 : (fo x x == some .eq) = true) (h4 : (fo x 0 == some .lt) = false) (h7 : (fo x 0 == some .gt) = false) : x % 9223372036854775808 = 0 := by
  have hn := isnum_of h1
  rw [E4 hn] at h4; rw [E7 hn] at h7
  generalize ngW x = s at *
  cases s <;> simp at * <;> omega
theorem l14_4 {x : Nat} (hx : x < 18446744073709551616) (h1 : (fo x x == some .eq) = true) (h4 : (fo x 0 == some .lt) = false) (h7 : (fo x 0 == some .gt) = false) (h8 : wr .i64 (uI x) < 0) : (4 : Int) = clsO x := by
  have hz := l14_z h1 h4 h7
  rw [clsO_eq]; unfold classV; rw [isnum_of h1, (E8 hx).1 h8, hz]; rfl
theorem l14_5 {x : Nat} (hx : x < 18446744073709551616) (h1 : (fo x x == some .eq) = true) (h4 : (fo x 0 == some .lt) = false) (h7 : (fo x 0 == some .gt) = false) (h8 : ¬ wr .i64 (uI x) < 0) : (5 : Int) = clsO x := by
  have hz := l14_z h1 h4 h7
  rw [E8 hx] at h8
  rw [clsO_eq]; unfold classV; rw [isnum_of h1, show ngW x = false by simpa using h8, hz]; rfl
noncomputable def g14 : List AV → T AV
  | [.v (.float .f64 x)] => .br (decide (x < 18446744073709551616)) (.ret (iv (clsO x))) .fail
  | _ => .fail
theorem c14 : Ctr Sx 14 g14 := by
  intro args Q h
  unfold g14 at h
  split at h
  · rename_i x
    obtain ⟨hx, h⟩ := br_ok h
    have hx := of_decide_eq_true hx
    have key : ∀ v : Int, v = clsO x → PQ Q (iv v) := fun v e => e ▸ ⟨rfl, h⟩
    refine ⟨rfl, ?_⟩
    refine H.sb 1 (fun b => (!b)) (Ieee.Format.order { exponentBits := 11, fractionBits := 52 } x x == some Ordering.eq) (by kernel_rfl) (fun h1 => ?_) (fun h1 => ?_)
    ·
     refine H.sb 5 (fun b => b) (Ieee.Format.order { exponentBits := 11, fractionBits := 52 } (x ^^^ 2 ^ 63) 9218868437227405311 == some Ordering.gt) (by kernel_rfl) (fun h2 => ?_) (fun h2 => ?_)
     ·
      refine H.lf (f := Prod.fst) 0 (AV.i IntKind.i64 1) (by kernel_rfl) ?_
      exact key _ (l14_1 h1 h2)
     ·
      refine H.sb 0 (fun b => b) (Ieee.Format.order { exponentBits := 11, fractionBits := 52 } x 9227875636482146304 == some Ordering.lt || Ieee.Format.order { exponentBits := 11, fractionBits := 52 } x 9227875636482146304 == some Ordering.eq) (by kernel_rfl) (fun h3 => ?_) (fun h3 => ?_)
      ·
       refine H.lf (f := Prod.fst) 0 (AV.i IntKind.i64 2) (by kernel_rfl) ?_
       exact key _ (l14_2 h1 h2 h3)
      ·
       refine H.sb 0 (fun b => b) (Ieee.Format.order { exponentBits := 11, fractionBits := 52 } x 0 == some Ordering.lt) (by kernel_rfl) (fun h4 => ?_) (fun h4 => ?_)
       ·
        refine H.lf (f := Prod.fst) 0 (AV.i IntKind.i64 3) (by kernel_rfl) ?_
        exact key _ (l14_3 h1 h2 h3 h4)
       ·
        refine H.sb 5 (fun b => b) (Ieee.Format.order { exponentBits := 11, fractionBits := 52 } x 9218868437227405311 == some Ordering.gt) (by kernel_rfl) (fun h5 => ?_) (fun h5 => ?_)
        ·
         refine H.lf (f := Prod.fst) 0 (AV.i IntKind.i64 8) (by kernel_rfl) ?_
         exact key _ (l14_8 h1 h5)
        ·
         refine H.sb 0 (fun b => b) (Ieee.Format.order { exponentBits := 11, fractionBits := 52 } x 4503599627370496 == some Ordering.gt || Ieee.Format.order { exponentBits := 11, fractionBits := 52 } x 4503599627370496 == some Ordering.eq) (by kernel_rfl) (fun h6 => ?_) (fun h6 => ?_)
         ·
          refine H.lf (f := Prod.fst) 0 (AV.i IntKind.i64 7) (by kernel_rfl) ?_
          exact key _ (l14_7 h1 h5 h6)
         ·
          refine H.sb 0 (fun b => b) (Ieee.Format.order { exponentBits := 11, fractionBits := 52 } x 0 == some Ordering.gt) (by kernel_rfl) (fun h7 => ?_) (fun h7 => ?_)
          ·
           refine H.lf (f := Prod.fst) 0 (AV.i IntKind.i64 6) (by kernel_rfl) ?_
           exact key _ (l14_6 h1 h5 h6 h7)
          ·
           refine H.sd 2 (fun b => b) (wr IntKind.i64 (uI x) < 0) (by kernel_rfl) (fun h8 => ?_) (fun h8 => ?_)
           ·
            refine H.lf (f := Prod.fst) 0 (AV.i IntKind.i64 4) (by kernel_rfl) ?_
            exact key _ (l14_4 hx h1 h4 h7 h8)
           ·
            refine H.lf (f := Prod.fst) 0 (AV.i IntKind.i64 5) (by kernel_rfl) ?_
            exact key _ (l14_5 hx h1 h4 h7 h8)
    ·
     refine H.lf (f := Prod.fst) 0 (AV.i IntKind.i64 0) (by kernel_rfl) ?_
     exact key _ (l14_0 h1)
  · exact h.elim
theorem and_lo {n : Nat} (k : Nat) (hk : k ≤ 63) (hn : n < 18446744073709551616) : wr .u64 (↑(BitVec.toNat (BitVec.ofInt 64 (n : Int) &&& BitVec.ofInt 64 ((2 ^ k - 1 : Nat) : Int)))) = (n % 2 ^ k : Nat) := by
  have h63 : 2 ^ k ≤ 9223372036854775808 := Nat.pow_le_pow_right (by decide) hk
  have e : (BitVec.ofInt 64 (n : Int) &&& BitVec.ofInt 64 ((2 ^ k - 1 : Nat) : Int)).toNat = n % 2 ^ k := by
    rw [BitVec.toNat_and, BitVec.ofInt_natCast, BitVec.ofInt_natCast, BitVec.toNat_ofNat, BitVec.toNat_ofNat, Nat.mod_eq_of_lt (a := n) (by omega), Nat.mod_eq_of_lt (a := 2 ^ k - 1) (by omega), Nat.and_two_pow_sub_one_eq_mod]
  rw [e]
  have : n % 2 ^ k ≤ n := Nat.mod_le _ _
  show ((n % 2 ^ k : Nat) : Int) % 18446744073709551616 = _
  omega
theorem k_ex {x : Nat} (hx : x < 18446744073709551616) : wr .u64 (↑(BitVec.toNat (BitVec.ofInt 64 (Int.fdiv (uI x) 4503599627370496) &&& BitVec.ofInt 64 2047)) : Int) = (x / 4503599627370496 % 2048 : Nat) := by
  rw [uI_eq, show Int.fdiv (x : Int) 4503599627370496 = ((x / 4503599627370496 : Nat) : Int) by rw [Int.fdiv_eq_ediv_of_nonneg _ (by decide)]; rfl]
  exact and_lo 11 (by decide) (by omega)
theorem k_fr {x : Nat} (hx : x < 18446744073709551616) : wr .u64 (↑(BitVec.toNat (BitVec.ofInt 64 (uI x) &&& BitVec.ofInt 64 4503599627370495)) : Int) = (x % 4503599627370496 : Nat) := by
  rw [uI_eq]; exact and_lo 52 (by decide) hx
theorem k_ng {x : Nat} : Int.fdiv (uI x) 9223372036854775808 = (x / 9223372036854775808 : Nat) := by
  rw [uI_eq, Int.fdiv_eq_ediv_of_nonneg _ (by decide)]; rfl
theorem l15 {x : Nat} (hx : x < 18446744073709551616) : clsO x = if x / 4503599627370496 % 2048 = 2047 ∧ x % 4503599627370496 ≠ 0 then 0 else if x / 9223372036854775808 = 1 then
    (if x / 4503599627370496 % 2048 = 2047 then 1 else if 0 < x / 4503599627370496 % 2048 then 2 else if 0 < x % 4503599627370496 then 3 else 4)
    else (if x / 4503599627370496 % 2048 = 2047 then 8 else if 0 < x / 4503599627370496 % 2048 then 7 else if 0 < x % 4503599627370496 then 6 else 5) := by
  rw [clsO_eq]; unfold classV nanW ngW
  simp only [decide_eq_true_eq, beq_iff_eq]
  by_cases a : x / 4503599627370496 % 2048 = 2047 ∧ x % 4503599627370496 ≠ 0
  · rw [if_pos a, if_pos (by omega)]
  · rw [if_neg a, if_neg (by omega)]
    by_cases b : x / 9223372036854775808 = 1
    · rw [if_pos b, if_pos (by omega)]
      by_cases c : x / 4503599627370496 % 2048 = 2047
      · rw [if_pos c, if_pos (by omega)]
      · rw [if_neg c, if_neg (by omega)]
        by_cases d : 0 < x / 4503599627370496 % 2048
        · rw [if_pos d, if_pos (by omega)]
        · rw [if_neg d, if_neg (by omega)]
          by_cases e : 0 < x % 4503599627370496
          · rw [if_pos e, if_pos (by omega)]
          · rw [if_neg e, if_neg (by omega)]
    · rw [if_neg b, if_neg (by omega)]
      by_cases c : x / 4503599627370496 % 2048 = 2047
      · rw [if_pos c, if_pos (by omega)]
      · rw [if_neg c, if_neg (by omega)]
        by_cases d : 0 < x / 4503599627370496 % 2048
        · rw [if_pos d, if_pos (by omega)]
        · rw [if_neg d, if_neg (by omega)]
          by_cases e : 0 < x % 4503599627370496
          · rw [if_pos e, if_pos (by omega)]
          · rw [if_neg e, if_neg (by omega)]
noncomputable def g15 : List AV → T AV
  | [.v (.float .f64 x)] => .br (decide (x < 18446744073709551616)) (.ret (iv (clsO x))) .fail
  | _ => .fail
theorem c15 : Ctr Sx 15 g15 := by
  intro args Q h
  unfold g15 at h
  split at h
  · rename_i x
    obtain ⟨hx, h⟩ := br_ok h
    have hx := of_decide_eq_true hx
    have key : ∀ v : Int, v = clsO x → PQ Q (iv v) := fun v e => e ▸ ⟨rfl, h⟩
    have ke := k_ex hx
    have kf := k_fr hx
    have kn := @k_ng x
    have kl := l15 hx
    refine ⟨rfl, ?_⟩
    refine H.se 7 (fun b => (b == true)) (wr IntKind.u64 (↑(BitVec.toNat (BitVec.ofInt 64 (Int.fdiv (uI x) 4503599627370496) &&& BitVec.ofInt 64 2047)) : Int)) (2047) (by kernel_rfl) (fun h1 => ?_) (fun h1 => ?_)
    ·
     refine H.se 3 (fun b => (!b)) (wr IntKind.u64 (↑(BitVec.toNat (BitVec.ofInt 64 (uI x) &&& BitVec.ofInt 64 4503599627370495)) : Int)) (0) (by kernel_rfl) (fun h2 => ?_) (fun h2 => ?_)
     ·
      refine H.ke 1 (fun b => (b == true)) (wr IntKind.u64 (↑(BitVec.toNat (BitVec.ofInt 64 (Int.fdiv (uI x) 4503599627370496) &&& BitVec.ofInt 64 2047)) : Int)) (2047) (by (first | assumption | omega)) (by kernel_rfl) ?_
      refine H.se 1 (fun b => b) (Int.fdiv (uI x) 9223372036854775808) (1) (by kernel_rfl) (fun h3 => ?_) (fun h3 => ?_)
      ·
       refine H.lf (f := Prod.fst) 0 (AV.i IntKind.i64 1) (by kernel_rfl) ?_
       refine key _ ?_; rw [kl]; simp only [ke, kf, kn] at *; clear kl ke kf kn h key; repeat (first | rw [if_pos (by omega)] | rw [if_neg (by omega)])
      ·
       refine H.ke 1 (fun b => b) (wr IntKind.u64 (↑(BitVec.toNat (BitVec.ofInt 64 (Int.fdiv (uI x) 4503599627370496) &&& BitVec.ofInt 64 2047)) : Int)) (2047) (by (first | assumption | omega)) (by kernel_rfl) ?_
       refine H.lf (f := Prod.fst) 0 (AV.i IntKind.i64 8) (by kernel_rfl) ?_
       refine key _ ?_; rw [kl]; simp only [ke, kf, kn] at *; clear kl ke kf kn h key; repeat (first | rw [if_pos (by omega)] | rw [if_neg (by omega)])
     ·
      refine H.lf (f := Prod.fst) 0 (AV.i IntKind.i64 0) (by kernel_rfl) ?_
      refine key _ ?_; rw [kl]; simp only [ke, kf, kn] at *; clear kl ke kf kn h key; repeat (first | rw [if_pos (by omega)] | rw [if_neg (by omega)])
    ·
     refine H.ne 4 (fun b => (b == true)) (wr IntKind.u64 (↑(BitVec.toNat (BitVec.ofInt 64 (Int.fdiv (uI x) 4503599627370496) &&& BitVec.ofInt 64 2047)) : Int)) (2047) (by (first | assumption | omega)) (by kernel_rfl) ?_
     refine H.ne 3 (fun b => b) (wr IntKind.u64 (↑(BitVec.toNat (BitVec.ofInt 64 (Int.fdiv (uI x) 4503599627370496) &&& BitVec.ofInt 64 2047)) : Int)) (2047) (by (first | assumption | omega)) (by kernel_rfl) ?_
     refine H.sd 1 (fun b => (b == true)) (wr IntKind.u64 (↑(BitVec.toNat (BitVec.ofInt 64 (Int.fdiv (uI x) 4503599627370496) &&& BitVec.ofInt 64 2047)) : Int) > 0) (by kernel_rfl) (fun h2 => ?_) (fun h2 => ?_)
     ·
      refine H.se 1 (fun b => b) (Int.fdiv (uI x) 9223372036854775808) (1) (by kernel_rfl) (fun h3 => ?_) (fun h3 => ?_)
      ·
       refine H.lf (f := Prod.fst) 0 (AV.i IntKind.i64 2) (by kernel_rfl) ?_
       refine key _ ?_; rw [kl]; simp only [ke, kf, kn] at *; clear kl ke kf kn h key; repeat (first | rw [if_pos (by omega)] | rw [if_neg (by omega)])
      ·
       refine H.kd 1 (fun b => b) (wr IntKind.u64 (↑(BitVec.toNat (BitVec.ofInt 64 (Int.fdiv (uI x) 4503599627370496) &&& BitVec.ofInt 64 2047)) : Int) > 0) (by (first | assumption | omega)) (by kernel_rfl) ?_
       refine H.lf (f := Prod.fst) 0 (AV.i IntKind.i64 7) (by kernel_rfl) ?_
       refine key _ ?_; rw [kl]; simp only [ke, kf, kn] at *; clear kl ke kf kn h key; repeat (first | rw [if_pos (by omega)] | rw [if_neg (by omega)])
     ·
      refine H.nd 3 (fun b => b) (wr IntKind.u64 (↑(BitVec.toNat (BitVec.ofInt 64 (Int.fdiv (uI x) 4503599627370496) &&& BitVec.ofInt 64 2047)) : Int) > 0) (by (first | assumption | omega)) (by kernel_rfl) ?_
      refine H.sd 1 (fun b => (b == true)) (wr IntKind.u64 (↑(BitVec.toNat (BitVec.ofInt 64 (uI x) &&& BitVec.ofInt 64 4503599627370495)) : Int) > 0) (by kernel_rfl) (fun h3 => ?_) (fun h3 => ?_)
      ·
       refine H.se 1 (fun b => b) (Int.fdiv (uI x) 9223372036854775808) (1) (by kernel_rfl) (fun h4 => ?_) (fun h4 => ?_)
       ·
        refine H.lf (f := Prod.fst) 0 (AV.i IntKind.i64 3) (by kernel_rfl) ?_
        refine key _ ?_; rw [kl]; simp only [ke, kf, kn] at *; clear kl ke kf kn h key; repeat (first | rw [if_pos (by omega)] | rw [if_neg (by omega)])
       ·
        refine H.kd 1 (fun b => b) (wr IntKind.u64 (↑(BitVec.toNat (BitVec.ofInt 64 (uI x) &&& BitVec.ofInt 64 4503599627370495)) : Int) > 0) (by (first | assumption | omega)) (by kernel_rfl) ?_
        refine H.lf (f := Prod.fst) 0 (AV.i IntKind.i64 6) (by kernel_rfl) ?_
        refine key _ ?_; rw [kl]; simp only [ke, kf, kn] at *; clear kl ke kf kn h key; repeat (first | rw [if_pos (by omega)] | rw [if_neg (by omega)])
      ·
       refine H.nd 3 (fun b => b) (wr IntKind.u64 (↑(BitVec.toNat (BitVec.ofInt 64 (uI x) &&& BitVec.ofInt 64 4503599627370495)) : Int) > 0) (by (first | assumption | omega)) (by kernel_rfl) ?_
       refine H.se 0 (fun b => b) (Int.fdiv (uI x) 9223372036854775808) (1) (by kernel_rfl) (fun h4 => ?_) (fun h4 => ?_)
       ·
        refine H.lf (f := Prod.fst) 0 (AV.i IntKind.i64 4) (by kernel_rfl) ?_
        refine key _ ?_; rw [kl]; simp only [ke, kf, kn] at *; clear kl ke kf kn h key; repeat (first | rw [if_pos (by omega)] | rw [if_neg (by omega)])
       ·
        refine H.lf (f := Prod.fst) 0 (AV.i IntKind.i64 5) (by kernel_rfl) ?_
        refine key _ ?_; rw [kl]; simp only [ke, kf, kn] at *; clear kl ke kf kn h key; repeat (first | rw [if_pos (by omega)] | rw [if_neg (by omega)])
  · exact h.elim
noncomputable def Sd : Sp := fun n => bif2 (Nat.beq n 14) (some (treeS g14)) (bif2 (Nat.beq n 15) (some (treeS g15)) (Sc n))
theorem sd (k : Nat) : SOk Tryd.prog (nR k) Sd := sctr (sx _) (sctr (sx _) (sc k) c15) c14
end Go.Proofs.TabR
