/- Lemmas about the evaluator of the code. -/
import Derived.Test.YthnabafmjhackaaDoorSetR
set_option linter.all false
set_option linter.deprecated false
set_option maxRecDepth 1000000
set_option maxHeartbeats 4000000
namespace Go.Proofs.TabR
open Go Go.Eng
/-! ## A float by its place in the order -/
noncomputable def ofU (x : Int) : Nat := if x < 9223372036854775808 then (18446744073709551615 - x).toNat else (x - 9223372036854775808).toNat
noncomputable def ofV (x : Int) : Nat := if nanW (ofU x) = true then 9221120237041090561 else ofU x
noncomputable def ofO (x : Int) : Nat := opq (ofV x)
theorem ofO_eq (x : Int) : ofO x = ofV x := opq_eq _
theorem ofU_lt {x : Int} (h0 : 0 ≤ x) (h1 : x < 18446744073709551616) : ofU x < 18446744073709551616 := by unfold ofU; split <;> omega
theorem ofO_lt {x : Int} (h0 : 0 ≤ x) (h1 : x < 18446744073709551616) : ofO x < 18446744073709551616 := by
  rw [ofO_eq]; unfold ofV; split
  · omega
  · exact ofU_lt h0 h1
theorem and_eq {x : Int} (h0 : 0 ≤ x) (h1 : x < 18446744073709551616) : wr .u64 (↑(BitVec.toNat (BitVec.ofInt 64 x &&& ~~~BitVec.ofInt 64 9223372036854775808))) = x % 9223372036854775808 := by
  obtain ⟨n, rfl⟩ : ∃ n : Nat, x = n := ⟨x.toNat, by omega⟩
  have e : (BitVec.ofInt 64 (n : Int) &&& ~~~BitVec.ofInt 64 9223372036854775808).toNat = n % 9223372036854775808 := by
    rw [BitVec.toNat_and, show (~~~BitVec.ofInt 64 9223372036854775808).toNat = 2 ^ 63 - 1 by decide, Nat.and_two_pow_sub_one_eq_mod, BitVec.ofInt_natCast, BitVec.toNat_ofNat]
    omega
  rw [e]
  show ((n % 9223372036854775808 : Nat) : Int) % 18446744073709551616 = _
  omega
theorem xor_eq {x : Int} (h0 : 0 ≤ x) (h1 : x < 18446744073709551616) : wr .u64 (↑(BitVec.toNat (BitVec.ofInt 64 18446744073709551615 ^^^ BitVec.ofInt 64 x))) = 18446744073709551615 - x := by
  obtain ⟨n, rfl⟩ : ∃ n : Nat, x = n := ⟨x.toNat, by omega⟩
  exact bits_xor (by omega)
theorem u_hi {x : Int} (h0 : 0 ≤ x) (h1 : x < 18446744073709551616) (h : x ≥ 9223372036854775808) : Int.toNat (wr .u64 (↑(BitVec.toNat (BitVec.ofInt 64 x &&& ~~~BitVec.ofInt 64 9223372036854775808)))) = ofU x := by
  rw [and_eq h0 h1]; unfold ofU; rw [if_neg (by omega)]; omega
theorem u_lo {x : Int} (h0 : 0 ≤ x) (h1 : x < 18446744073709551616) (h : x < 9223372036854775808) : Int.toNat (wr .u64 (↑(BitVec.toNat (BitVec.ofInt 64 18446744073709551615 ^^^ BitVec.ofInt 64 x)))) = ofU x := by
  rw [xor_eq h0 h1]; unfold ofU; rw [if_pos h]
theorem u_hi2 {x : Int} (h0 : 0 ≤ x) (h1 : x < 18446744073709551616) (h : ¬ x < 9223372036854775808) : Int.toNat (wr .u64 (x - 9223372036854775808)) = ofU x := by
  unfold ofU; rw [if_neg h]
  show ((x - 9223372036854775808) % 18446744073709551616).toNat = _
  omega
theorem lt_and {x : Int} (h0 : 0 ≤ x) (h1 : x < 18446744073709551616) (h : x ≥ 9223372036854775808) : Int.toNat (wr .u64 (↑(BitVec.toNat (BitVec.ofInt 64 x &&& ~~~BitVec.ofInt 64 9223372036854775808)))) < 18446744073709551616 := by rw [u_hi h0 h1 h]; exact ofU_lt h0 h1
theorem lt_xor {x : Int} (h0 : 0 ≤ x) (h1 : x < 18446744073709551616) : Int.toNat (wr .u64 (↑(BitVec.toNat (BitVec.ofInt 64 18446744073709551615 ^^^ BitVec.ofInt 64 x)))) < 18446744073709551616 := by rw [xor_eq h0 h1]; omega
theorem of_num {x : Int} (h : (fo (ofU x) (ofU x) == some .eq) = true) : ofU x = ofO x := by rw [ofO_eq]; unfold ofV; rw [if_neg (by rw [nan_of h]; decide)]
theorem of_nan {x : Int} (h : (fo (ofU x) (ofU x) == some .eq) = false) : Int.toNat 9221120237041090561 = ofO x := by rw [ofO_eq]; unfold ofV; rw [if_pos (by rw [nan_of h]; decide)]; rfl
theorem of_hi {x : Int} (h0 : 0 ≤ x) (h1 : x < 18446744073709551616) (h : x ≥ 9223372036854775808) (hn : (fo (Int.toNat (wr .u64 (↑(BitVec.toNat (BitVec.ofInt 64 x &&& ~~~BitVec.ofInt 64 9223372036854775808))))) (Int.toNat (wr .u64 (↑(BitVec.toNat (BitVec.ofInt 64 x &&& ~~~BitVec.ofInt 64 9223372036854775808))))) == some .eq) = true) : Int.toNat (wr .u64 (↑(BitVec.toNat (BitVec.ofInt 64 x &&& ~~~BitVec.ofInt 64 9223372036854775808)))) = ofO x := by
  rw [u_hi h0 h1 h] at *; exact of_num hn
theorem of_nhi {x : Int} (h0 : 0 ≤ x) (h1 : x < 18446744073709551616) (h : x ≥ 9223372036854775808) (hn : (fo (Int.toNat (wr .u64 (↑(BitVec.toNat (BitVec.ofInt 64 x &&& ~~~BitVec.ofInt 64 9223372036854775808))))) (Int.toNat (wr .u64 (↑(BitVec.toNat (BitVec.ofInt 64 x &&& ~~~BitVec.ofInt 64 9223372036854775808))))) == some .eq) = false) : Int.toNat 9221120237041090561 = ofO x := by
  rw [u_hi h0 h1 h] at hn; exact of_nan hn
theorem of_lo {x : Int} (h0 : 0 ≤ x) (h1 : x < 18446744073709551616) (h : x < 9223372036854775808) (hn : (fo (Int.toNat (wr .u64 (↑(BitVec.toNat (BitVec.ofInt 64 18446744073709551615 ^^^ BitVec.ofInt 64 x))))) (Int.toNat (wr .u64 (↑(BitVec.toNat (BitVec.ofInt 64 18446744073709551615 ^^^ BitVec.ofInt 64 x))))) == some .eq) = true) : Int.toNat (wr .u64 (↑(BitVec.toNat (BitVec.ofInt 64 18446744073709551615 ^^^ BitVec.ofInt 64 x)))) = ofO x := by
  rw [u_lo h0 h1 h] at *; exact of_num hn
theorem of_nlo {x : Int} (h0 : 0 ≤ x) (h1 : x < 18446744073709551616) (h : x < 9223372036854775808) (hn : (fo (Int.toNat (wr .u64 (↑(BitVec.toNat (BitVec.ofInt 64 18446744073709551615 ^^^ BitVec.ofInt 64 x))))) (Int.toNat (wr .u64 (↑(BitVec.toNat (BitVec.ofInt 64 18446744073709551615 ^^^ BitVec.ofInt 64 x))))) == some .eq) = false) : Int.toNat 9221120237041090561 = ofO x := by
  rw [u_lo h0 h1 h] at hn; exact of_nan hn
theorem of_hi2 {x : Int} (h0 : 0 ≤ x) (h1 : x < 18446744073709551616) (h : ¬ x < 9223372036854775808) (hn : (fo (Int.toNat (wr .u64 (x - 9223372036854775808))) (Int.toNat (wr .u64 (x - 9223372036854775808))) == some .eq) = true) : Int.toNat (wr .u64 (x - 9223372036854775808)) = ofO x := by
  rw [u_hi2 h0 h1 h] at *; exact of_num hn
theorem of_nhi2 {x : Int} (h0 : 0 ≤ x) (h1 : x < 18446744073709551616) (h : ¬ x < 9223372036854775808) (hn : (fo (Int.toNat (wr .u64 (x - 9223372036854775808))) (Int.toNat (wr .u64 (x - 9223372036854775808))) == some .eq) = false) : Int.toNat 9221120237041090561 = ofO x := by
  rw [u_hi2 h0 h1 h] at hn; exact of_nan hn
theorem bits_of {x : Int} (h0 : 0 ≤ x) (h1 : x < 18446744073709551616) (hn : (fo (ofU x) (ofU x) == some .eq) = true) : bitsO (ofU x) = x := by
  rw [bitsO_eq]
  have hn := nan_of hn
  by_cases h : x < 9223372036854775808
  · have e : ofU x = (18446744073709551615 - x).toNat := if_pos h
    rw [bits_hi hn (by omega)]; omega
  · have e : ofU x = (x - 9223372036854775808).toNat := if_neg h
    rw [bits_lo hn (by omega)]; omega
theorem bt_hi {x : Int} (h0 : 0 ≤ x) (h1 : x < 18446744073709551616) (h : x ≥ 9223372036854775808) (hn : (fo (Int.toNat (wr .u64 (↑(BitVec.toNat (BitVec.ofInt 64 x &&& ~~~BitVec.ofInt 64 9223372036854775808))))) (Int.toNat (wr .u64 (↑(BitVec.toNat (BitVec.ofInt 64 x &&& ~~~BitVec.ofInt 64 9223372036854775808))))) == some .eq) = true) : bitsO (Int.toNat (wr .u64 (↑(BitVec.toNat (BitVec.ofInt 64 x &&& ~~~BitVec.ofInt 64 9223372036854775808))))) = x := by
  rw [u_hi h0 h1 h] at *; exact bits_of h0 h1 hn
theorem bt_lo {x : Int} (h0 : 0 ≤ x) (h1 : x < 18446744073709551616) (h : x < 9223372036854775808) (hn : (fo (Int.toNat (wr .u64 (↑(BitVec.toNat (BitVec.ofInt 64 18446744073709551615 ^^^ BitVec.ofInt 64 x))))) (Int.toNat (wr .u64 (↑(BitVec.toNat (BitVec.ofInt 64 18446744073709551615 ^^^ BitVec.ofInt 64 x))))) == some .eq) = true) : bitsO (Int.toNat (wr .u64 (↑(BitVec.toNat (BitVec.ofInt 64 18446744073709551615 ^^^ BitVec.ofInt 64 x))))) = x := by
  rw [u_lo h0 h1 h] at *; exact bits_of h0 h1 hn
noncomputable def g23 : List AV → T AV
  | [.i .u64 x] => .br (decide (0 ≤ x ∧ x < 18446744073709551616)) (.ret (fv (ofO x))) .fail
  | _ => .fail
theorem c23 : Ctr S1 23 g23 := by
  intro args Q h
  unfold g23 at h
  split at h
  · rename_i x
    obtain ⟨hx, h⟩ := br_ok h
    obtain ⟨h0x, h1x⟩ := of_decide_eq_true hx
    have key : ∀ v : Nat, v = ofO x → PQ Q (fv v) := fun v e => e ▸ ⟨rfl, h⟩
    refine ⟨rfl, ?_⟩
    refine H.sd 2 (fun b => b) (x ≥ 9223372036854775808) (by kernel_rfl) (fun hb => ?_) (fun hb => ?_)
    ·
     refine H.sb 1 (fun b => ((!b) == false)) (Ieee.Format.order { exponentBits := 11, fractionBits := 52 } (Int.toNat (wr IntKind.u64 (↑(BitVec.toNat (BitVec.ofInt 64 x &&& ~~~BitVec.ofInt 64 9223372036854775808)) : Int))) (Int.toNat (wr IntKind.u64 (↑(BitVec.toNat (BitVec.ofInt 64 x &&& ~~~BitVec.ofInt 64 9223372036854775808)) : Int))) == some Ordering.eq) (by kernel_rfl) (fun h2 => ?_) (fun h2 => ?_)
     ·
      refine H.sd 1 (fun b => b) (Int.toNat (wr IntKind.u64 (↑(BitVec.toNat (BitVec.ofInt (IntKind.bits IntKind.u64) x &&& ~~~BitVec.ofInt (IntKind.bits IntKind.u64) 9223372036854775808)) : Int)) < 18446744073709551616) (by kernel_rfl) (fun h3 => ?_) (fun h3 => ?_)
      ·
       refine H.se 4 (fun b => (!b)) (bitsO (Int.toNat (wr IntKind.u64 (↑(BitVec.toNat (BitVec.ofInt 64 x &&& ~~~BitVec.ofInt 64 9223372036854775808)) : Int)))) (x) (by kernel_rfl) (fun h4 => ?_) (fun h4 => ?_)
       ·
        refine H.lf (f := Prod.fst) 0 (AV.v (Value.float FloatKind.f64 (Int.toNat (wr IntKind.u64 (↑(BitVec.toNat (BitVec.ofInt 64 x &&& ~~~BitVec.ofInt 64 9223372036854775808)) : Int))))) (by kernel_rfl) ?_
        first | exact key _ (of_hi h0x h1x (by omega) (by assumption)) | exact key _ (of_lo h0x h1x (by omega) (by assumption)) | exact key _ (of_hi2 h0x h1x (by omega) (by assumption)) | exact key _ (of_nhi h0x h1x (by omega) (by assumption)) | exact key _ (of_nlo h0x h1x (by omega) (by assumption)) | exact key _ (of_nhi2 h0x h1x (by omega) (by assumption)) | exact absurd (bt_hi h0x h1x (by omega) (by assumption)) (by assumption) | exact absurd (bt_lo h0x h1x (by omega) (by assumption)) (by assumption)
       ·
        refine H.lf (f := Prod.fst) 1 (AV.v (Value.float FloatKind.f64 (Int.toNat 9221120237041090561))) (by kernel_rfl) ?_
        first | exact key _ (of_hi h0x h1x (by omega) (by assumption)) | exact key _ (of_lo h0x h1x (by omega) (by assumption)) | exact key _ (of_hi2 h0x h1x (by omega) (by assumption)) | exact key _ (of_nhi h0x h1x (by omega) (by assumption)) | exact key _ (of_nlo h0x h1x (by omega) (by assumption)) | exact key _ (of_nhi2 h0x h1x (by omega) (by assumption)) | exact absurd (bt_hi h0x h1x (by omega) (by assumption)) (by assumption) | exact absurd (bt_lo h0x h1x (by omega) (by assumption)) (by assumption)
      ·
       exfalso; first | omega | exact absurd (by first | exact lt_and h0x h1x (by omega) | exact lt_xor h0x h1x) (by assumption)
     ·
      refine H.lf (f := Prod.fst) 6 (AV.v (Value.float FloatKind.f64 (Int.toNat 9221120237041090561))) (by kernel_rfl) ?_
      first | exact key _ (of_hi h0x h1x (by omega) (by assumption)) | exact key _ (of_lo h0x h1x (by omega) (by assumption)) | exact key _ (of_hi2 h0x h1x (by omega) (by assumption)) | exact key _ (of_nhi h0x h1x (by omega) (by assumption)) | exact key _ (of_nlo h0x h1x (by omega) (by assumption)) | exact key _ (of_nhi2 h0x h1x (by omega) (by assumption)) | exact absurd (bt_hi h0x h1x (by omega) (by assumption)) (by assumption) | exact absurd (bt_lo h0x h1x (by omega) (by assumption)) (by assumption)
    ·
     refine H.sb 0 (fun b => ((!b) == false)) (Ieee.Format.order { exponentBits := 11, fractionBits := 52 } (Int.toNat (wr IntKind.u64 (↑(BitVec.toNat (BitVec.ofInt 64 18446744073709551615 ^^^ BitVec.ofInt 64 x)) : Int))) (Int.toNat (wr IntKind.u64 (↑(BitVec.toNat (BitVec.ofInt 64 18446744073709551615 ^^^ BitVec.ofInt 64 x)) : Int))) == some Ordering.eq) (by kernel_rfl) (fun h2 => ?_) (fun h2 => ?_)
     ·
      refine H.sd 1 (fun b => b) (Int.toNat (wr IntKind.u64 (↑(BitVec.toNat (BitVec.ofInt (IntKind.bits IntKind.u64) (bif IntKind.signed IntKind.u64 then -1 else IntKind.max IntKind.u64) ^^^ BitVec.ofInt (IntKind.bits IntKind.u64) x)) : Int)) < 18446744073709551616) (by kernel_rfl) (fun h3 => ?_) (fun h3 => ?_)
      ·
       refine H.se 4 (fun b => (!b)) (bitsO (Int.toNat (wr IntKind.u64 (↑(BitVec.toNat (BitVec.ofInt 64 18446744073709551615 ^^^ BitVec.ofInt 64 x)) : Int)))) (x) (by kernel_rfl) (fun h4 => ?_) (fun h4 => ?_)
       ·
        refine H.lf (f := Prod.fst) 0 (AV.v (Value.float FloatKind.f64 (Int.toNat (wr IntKind.u64 (↑(BitVec.toNat (BitVec.ofInt 64 18446744073709551615 ^^^ BitVec.ofInt 64 x)) : Int))))) (by kernel_rfl) ?_
        first | exact key _ (of_hi h0x h1x (by omega) (by assumption)) | exact key _ (of_lo h0x h1x (by omega) (by assumption)) | exact key _ (of_hi2 h0x h1x (by omega) (by assumption)) | exact key _ (of_nhi h0x h1x (by omega) (by assumption)) | exact key _ (of_nlo h0x h1x (by omega) (by assumption)) | exact key _ (of_nhi2 h0x h1x (by omega) (by assumption)) | exact absurd (bt_hi h0x h1x (by omega) (by assumption)) (by assumption) | exact absurd (bt_lo h0x h1x (by omega) (by assumption)) (by assumption)
       ·
        refine H.lf (f := Prod.fst) 1 (AV.v (Value.float FloatKind.f64 (Int.toNat 9221120237041090561))) (by kernel_rfl) ?_
        first | exact key _ (of_hi h0x h1x (by omega) (by assumption)) | exact key _ (of_lo h0x h1x (by omega) (by assumption)) | exact key _ (of_hi2 h0x h1x (by omega) (by assumption)) | exact key _ (of_nhi h0x h1x (by omega) (by assumption)) | exact key _ (of_nlo h0x h1x (by omega) (by assumption)) | exact key _ (of_nhi2 h0x h1x (by omega) (by assumption)) | exact absurd (bt_hi h0x h1x (by omega) (by assumption)) (by assumption) | exact absurd (bt_lo h0x h1x (by omega) (by assumption)) (by assumption)
      ·
       exfalso; first | omega | exact absurd (by first | exact lt_and h0x h1x (by omega) | exact lt_xor h0x h1x) (by assumption)
     ·
      refine H.lf (f := Prod.fst) 6 (AV.v (Value.float FloatKind.f64 (Int.toNat 9221120237041090561))) (by kernel_rfl) ?_
      first | exact key _ (of_hi h0x h1x (by omega) (by assumption)) | exact key _ (of_lo h0x h1x (by omega) (by assumption)) | exact key _ (of_hi2 h0x h1x (by omega) (by assumption)) | exact key _ (of_nhi h0x h1x (by omega) (by assumption)) | exact key _ (of_nlo h0x h1x (by omega) (by assumption)) | exact key _ (of_nhi2 h0x h1x (by omega) (by assumption)) | exact absurd (bt_hi h0x h1x (by omega) (by assumption)) (by assumption) | exact absurd (bt_lo h0x h1x (by omega) (by assumption)) (by assumption)

  · exact h.elim
theorem c24 : Ctr S1 24 g23 := by
  intro args Q h
  unfold g23 at h
  split at h
  · rename_i x
    obtain ⟨hx, h⟩ := br_ok h
    obtain ⟨h0x, h1x⟩ := of_decide_eq_true hx
    have key : ∀ v : Nat, v = ofO x → PQ Q (fv v) := fun v e => e ▸ ⟨rfl, h⟩
    refine ⟨rfl, ?_⟩
    refine H.sd 3 (fun b => b) (x < 9223372036854775808) (by kernel_rfl) (fun hb => ?_) (fun hb => ?_)
    ·
     refine H.sb 0 (fun b => (!b)) (Ieee.Format.order { exponentBits := 11, fractionBits := 52 } (Int.toNat (wr IntKind.u64 (↑(BitVec.toNat (BitVec.ofInt 64 18446744073709551615 ^^^ BitVec.ofInt 64 x)) : Int))) (Int.toNat (wr IntKind.u64 (↑(BitVec.toNat (BitVec.ofInt 64 18446744073709551615 ^^^ BitVec.ofInt 64 x)) : Int))) == some Ordering.eq) (by kernel_rfl) (fun h2 => ?_) (fun h2 => ?_)
     ·
      refine H.lf (f := Prod.fst) 0 (AV.v (Value.float FloatKind.f64 (Int.toNat (wr IntKind.u64 (↑(BitVec.toNat (BitVec.ofInt 64 18446744073709551615 ^^^ BitVec.ofInt 64 x)) : Int))))) (by kernel_rfl) ?_
      first | exact key _ (of_hi h0x h1x (by omega) (by assumption)) | exact key _ (of_lo h0x h1x (by omega) (by assumption)) | exact key _ (of_hi2 h0x h1x (by omega) (by assumption)) | exact key _ (of_nhi h0x h1x (by omega) (by assumption)) | exact key _ (of_nlo h0x h1x (by omega) (by assumption)) | exact key _ (of_nhi2 h0x h1x (by omega) (by assumption)) | exact absurd (bt_hi h0x h1x (by omega) (by assumption)) (by assumption) | exact absurd (bt_lo h0x h1x (by omega) (by assumption)) (by assumption)
     ·
      refine H.lf (f := Prod.fst) 1 (AV.v (Value.float FloatKind.f64 (Int.toNat 9221120237041090561))) (by kernel_rfl) ?_
      first | exact key _ (of_hi h0x h1x (by omega) (by assumption)) | exact key _ (of_lo h0x h1x (by omega) (by assumption)) | exact key _ (of_hi2 h0x h1x (by omega) (by assumption)) | exact key _ (of_nhi h0x h1x (by omega) (by assumption)) | exact key _ (of_nlo h0x h1x (by omega) (by assumption)) | exact key _ (of_nhi2 h0x h1x (by omega) (by assumption)) | exact absurd (bt_hi h0x h1x (by omega) (by assumption)) (by assumption) | exact absurd (bt_lo h0x h1x (by omega) (by assumption)) (by assumption)
    ·
     refine H.sb 0 (fun b => (!b)) (Ieee.Format.order { exponentBits := 11, fractionBits := 52 } (Int.toNat (wr IntKind.u64 (x - 9223372036854775808))) (Int.toNat (wr IntKind.u64 (x - 9223372036854775808))) == some Ordering.eq) (by kernel_rfl) (fun h2 => ?_) (fun h2 => ?_)
     ·
      refine H.lf (f := Prod.fst) 0 (AV.v (Value.float FloatKind.f64 (Int.toNat (wr IntKind.u64 (x - 9223372036854775808))))) (by kernel_rfl) ?_
      first | exact key _ (of_hi h0x h1x (by omega) (by assumption)) | exact key _ (of_lo h0x h1x (by omega) (by assumption)) | exact key _ (of_hi2 h0x h1x (by omega) (by assumption)) | exact key _ (of_nhi h0x h1x (by omega) (by assumption)) | exact key _ (of_nlo h0x h1x (by omega) (by assumption)) | exact key _ (of_nhi2 h0x h1x (by omega) (by assumption)) | exact absurd (bt_hi h0x h1x (by omega) (by assumption)) (by assumption) | exact absurd (bt_lo h0x h1x (by omega) (by assumption)) (by assumption)
     ·
      refine H.lf (f := Prod.fst) 1 (AV.v (Value.float FloatKind.f64 (Int.toNat 9221120237041090561))) (by kernel_rfl) ?_
      first | exact key _ (of_hi h0x h1x (by omega) (by assumption)) | exact key _ (of_lo h0x h1x (by omega) (by assumption)) | exact key _ (of_hi2 h0x h1x (by omega) (by assumption)) | exact key _ (of_nhi h0x h1x (by omega) (by assumption)) | exact key _ (of_nlo h0x h1x (by omega) (by assumption)) | exact key _ (of_nhi2 h0x h1x (by omega) (by assumption)) | exact absurd (bt_hi h0x h1x (by omega) (by assumption)) (by assumption) | exact absurd (bt_lo h0x h1x (by omega) (by assumption)) (by assumption)

  · exact h.elim
noncomputable def Sb : Sp := fun n => bif2 (Nat.beq n 23) (some (treeS g23)) (bif2 (Nat.beq n 24) (some (treeS g23)) (Sa n))
theorem sb (k : Nat) : SOk Tryd.prog (nR k) Sb := sctr (s1 _) (sctr (s1 _) (sa k) c24) c23
end Go.Proofs.TabR
