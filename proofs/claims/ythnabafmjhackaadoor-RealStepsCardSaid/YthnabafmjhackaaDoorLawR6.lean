/- A law walked through by the evaluator, for all columns that its argument may have. -/
import Derived.Test.YthnabafmjhackaaDoorStpR
import Derived.Test.YthnabafmjhackaaDoorArgFR
import Derived.Test.YthnabafmjhackaaDoorLawR5
set_option linter.all false
set_option linter.deprecated false
set_option maxRecDepth 1000000
set_option maxHeartbeats 4000000
namespace Go.Proofs.TabR
open Go Go.Eng
noncomputable abbrev T6 (a : Int) : Int := wr .u64 (4503599627370495 + wr .u64 (wi a 4611686018427387904))
theorem T6_b (a : Int) : 0 ≤ T6 a ∧ T6 a < 9223372036854775807 ∧ wr .u64 (T6 a + 1) = T6 a + 1 := by
  have h1 := wi_nonneg (n := a) (m := 4611686018427387904) (by omega)
  have h2 := wi_lt (n := a) (m := 4611686018427387904) (by omega)
  have e : T6 a = (4503599627370495 + wi a 4611686018427387904 % 18446744073709551616) % 18446744073709551616 := rfl
  have e2 : wr .u64 (T6 a + 1) = (T6 a + 1) % 18446744073709551616 := rfl
  rw [e2]
  generalize T6 a = t at *
  omega
theorem pl {t : Int} (h0 : 0 ≤ t) (h1 : t < 9223372036854775808) (hn : (fo (ofO t) (ofO t) == some .eq) = true) : bitsO (ofO t) = t ∧ ngW (ofO t) = true ∧ nanW (ofO t) = false := by
  have hn := nan_of hn
  have e : ofU t = (18446744073709551615 - t).toNat := if_pos h1
  have hu : nanW (ofU t) = false := by
    rw [ofO_eq] at hn; unfold ofV at hn
    cases hh : nanW (ofU t) with
    | false => rfl
    | true => rw [if_pos hh] at hn; exact absurd hn (by decide +kernel)
  have eo : ofO t = ofU t := by rw [ofO_eq]; unfold ofV; rw [if_neg (by rw [hu]; decide)]
  refine ⟨?_, ?_, hn⟩
  · rw [eo, bitsO_eq, bits_hi hu (by omega)]; omega
  · rw [eo, e]; unfold ngW
    have : (18446744073709551615 - t).toNat / 9223372036854775808 = 1 := by omega
    rw [this]; rfl
theorem plL {a : Int} (h : (fo (ofO (T6 a)) (ofO (T6 a)) == some .eq) = true) : bitsO (ofO (T6 a)) = T6 a ∧ ngW (ofO (T6 a)) = true ∧ nanW (ofO (T6 a)) = false := pl (T6_b a).1 (by have := (T6_b a).2.1; omega) h
theorem plH {a : Int} (h : (fo (ofO (wr .u64 (T6 a + 1))) (ofO (wr .u64 (T6 a + 1))) == some .eq) = true) : bitsO (ofO (wr .u64 (T6 a + 1))) = wr .u64 (T6 a + 1) ∧ ngW (ofO (wr .u64 (T6 a + 1))) = true ∧ nanW (ofO (wr .u64 (T6 a + 1))) = false := by
  have hb := T6_b a
  exact pl (by omega) (by omega) h
theorem e7 {a : Int} (h2 : cmpO (ofO (T6 a)) (ofO (wr .u64 (T6 a + 1))) ≠ -1) (h : (fo (ofO (T6 a)) (ofO (T6 a)) == some .eq) = true) (h' : (fo (ofO (wr .u64 (T6 a + 1))) (ofO (wr .u64 (T6 a + 1))) == some .eq) = true) : False := by
  refine h2 (c_lt ?_).symm
  rw [(plL h).1, (plH h').1]
  have := T6_b a
  omega
theorem e8 {a : Int} (h2 : bitsO (ofO (T6 a)) ≠ T6 a) (h : (fo (ofO (T6 a)) (ofO (T6 a)) == some .eq) = true) : False := h2 (plL h).1
theorem e9 {a : Int} (h2 : bitsO (ofO (wr .u64 (T6 a + 1))) ≠ wr .u64 (T6 a + 1)) (h : (fo (ofO (wr .u64 (T6 a + 1))) (ofO (wr .u64 (T6 a + 1))) == some .eq) = true) : False := h2 (plH h).1
theorem e10 {x : Nat} (h2 : (floatBits .quo .f64 x 4611686018427387904).isSome = false) (h : (fo x x == some .eq) = true) : False := by
  rw [(half_some (nan_of h)).1] at h2; cases h2
theorem e1x {a : Int} (h : (fo (ofO (T6 a)) (ofO (T6 a)) == some .eq) = true) (h' : (fo (ofO (wr .u64 (T6 a + 1))) (ofO (wr .u64 (T6 a + 1))) == some .eq) = true) : (floatBits .add .f64 ((floatBits .quo .f64 (ofO (T6 a)) 4611686018427387904).getD 0) ((floatBits .quo .f64 (ofO (wr .u64 (T6 a + 1))) 4611686018427387904).getD 0)).isSome = true ∧ (floatBits .add .f64 ((floatBits .quo .f64 (ofO (T6 a)) 4611686018427387904).getD 0) ((floatBits .quo .f64 (ofO (wr .u64 (T6 a + 1))) 4611686018427387904).getD 0)).getD 0 < 18446744073709551616 := by
  have k := half_some (plL h).2.2
  have k' := half_some (plH h').2.2
  exact sum_some k.2.1 k'.2.1 (k.2.2.1.trans ((plL h).2.1.trans (k'.2.2.1.trans (plH h').2.1).symm))
theorem e12 {a : Int} (h2 : (floatBits .add .f64 ((floatBits .quo .f64 (ofO (T6 a)) 4611686018427387904).getD 0) ((floatBits .quo .f64 (ofO (wr .u64 (T6 a + 1))) 4611686018427387904).getD 0)).isSome = false) (h : (fo (ofO (T6 a)) (ofO (T6 a)) == some .eq) = true) (h' : (fo (ofO (wr .u64 (T6 a + 1))) (ofO (wr .u64 (T6 a + 1))) == some .eq) = true) : False := by
  rw [(e1x h h').1] at h2; cases h2
theorem e13 {a : Int} (h2 : ¬ (floatBits .add .f64 ((floatBits .quo .f64 (ofO (T6 a)) 4611686018427387904).getD 0) ((floatBits .quo .f64 (ofO (wr .u64 (T6 a + 1))) 4611686018427387904).getD 0)).getD 0 < 18446744073709551616) (h : (fo (ofO (T6 a)) (ofO (T6 a)) == some .eq) = true) (h' : (fo (ofO (wr .u64 (T6 a + 1))) (ofO (wr .u64 (T6 a + 1))) == some .eq) = true) : False := h2 (e1x h h').2
theorem e15 {a : Int} {m : Nat} (h2 : cmpO m (ofO (T6 a)) > 0) (h3 : cmpO m (ofO (wr .u64 (T6 a + 1))) < 0) (h : (fo (ofO (T6 a)) (ofO (T6 a)) == some .eq) = true) (h' : (fo (ofO (wr .u64 (T6 a + 1))) (ofO (wr .u64 (T6 a + 1))) == some .eq) = true) : False := by
  have k := (plL h).1
  have k' := (plH h').1
  have hb := T6_b a
  rw [bitsO_eq] at k k'
  rw [cmpO_eq] at h2 h3
  unfold cmpV at h2 h3
  rw [k] at h2
  rw [k'] at h3
  generalize bitsV m = z at *
  split at h2
  · omega
  · split at h2
    · split at h3
      · omega
      · split at h3 <;> omega
    · omega
theorem c1 : bitsO (Int.toNat 18442240474082181120) = 4503599627370495 := by rw [bitsO_eq]; decide +kernel
theorem c2 : bitsO (Int.toNat 9218868437227405312) = 18442240474082181120 := by rw [bitsO_eq]; decide +kernel
theorem c3 : ofO 0 = Int.toNat 9221120237041090561 := by rw [ofO_eq]; decide +kernel
theorem k1 (h : bitsO (Int.toNat 18442240474082181120) ≠ 4503599627370495) : False := h c1
theorem k2 (h : bitsO (Int.toNat 9218868437227405312) ≠ 18442240474082181120) : False := h c2
theorem k3 (h : ¬ ofO 0 = Int.toNat 9221120237041090561) : False := h c3
attribute [local irreducible] cmpO bitsO ofO floatBits wi
section
variable {nl : Bool} {n cap : Nat} {l : List Int}
def I6 (nl : Bool) (n cap : Nat) (l : List Int) (m : Nat) (s : St3) : Prop := ∃ (i : Nat), i ≤ 30 ∧ m = 30 - i ∧ s = ([.sl 0 0 n (some cap), iv i], 1, [.ro nl n [.ci .u64 l]])
theorem ag6 {m i : Nat} (hmi : m = 30 - i) (h : i < 30) {G : Stop → Prop} :
    OkL (fun s' => ∃ m', m' < m ∧ I6 nl n cap l m' s') G (.inl ([.sl 0 0 n (some cap), iv (wr .i64 ((i : Int) + 1))], 1, [.ro nl n [.ci .u64 l]])) := by
  have hlt : 30 - (i + 1) < m := by omega
  exact ⟨_, hlt, i + 1, by omega, rfl, by rw [wrM (by omega)]⟩
theorem step6 (m : Nat) (s : St3) (hi : I6 nl n cap l m s) :
    H (lawL Sc (fi6 false) 1 [1,0,1,0] 1 [.sl 0 0 n (some cap)] s) (OkS (fun s' => ∃ m', m' < m ∧ I6 nl n cap l m' s') (OkY (fun y : AV × Mem => y.1 = .b true) (fun _ => False))) (fun _ _ => False) := by
  obtain ⟨i, hi, hmi, rfl⟩ := hi
  refine lawL_Q ?_
  refine H.sd 1 (fun b => (b == true)) ((↑i : Int) < (↑n : Int)) (by kernel_rfl) (fun h1 => ?_) (fun h1 => ?_)
  ·
   refine H.sd 3 (fun b => b) ((↑i : Int) < 30) (by kernel_rfl) (fun h2 => ?_) (fun h2 => ?_)
   ·
    refine H.kd 2 (fun b => b) ((↑i : Int) < (↑n : Int)) (by first | assumption | omega | with_reducible exact wu _ | exact beq_self_eq_true _) (by kernel_rfl) ?_
    refine H.kl 0 (fun b => b) (0 + Int.toNat (↑i : Int)) (n) (by first | assumption | omega | with_reducible exact wu _ | exact beq_self_eq_true _) (by kernel_rfl) ?_
    refine H.kd 3 (fun b => b) (0 ≤ wr IntKind.u64 (4503599627370495 + wr IntKind.u64 (wi (wr IntKind.i64 (Int.fdiv (List.getD l (0 + Int.toNat (↑i : Int)) 0) (2 ^ min (Int.toNat 1) (IntKind.bits IntKind.u64)))) 4611686018427387904)) ∧ wr IntKind.u64 (4503599627370495 + wr IntKind.u64 (wi (wr IntKind.i64 (Int.fdiv (List.getD l (0 + Int.toNat (↑i : Int)) 0) (2 ^ min (Int.toNat 1) (IntKind.bits IntKind.u64)))) 4611686018427387904)) < 18446744073709551616) (by first | assumption | omega | with_reducible exact wu _ | exact beq_self_eq_true _) (by kernel_rfl) ?_
    refine H.kd 1 (fun b => b) (0 ≤ wr IntKind.u64 (wr IntKind.u64 (4503599627370495 + wr IntKind.u64 (wi (wr IntKind.i64 (Int.fdiv (List.getD l (0 + Int.toNat (↑i : Int)) 0) (2 ^ min (Int.toNat 1) (IntKind.bits IntKind.u64)))) 4611686018427387904)) + 1) ∧ wr IntKind.u64 (wr IntKind.u64 (4503599627370495 + wr IntKind.u64 (wi (wr IntKind.i64 (Int.fdiv (List.getD l (0 + Int.toNat (↑i : Int)) 0) (2 ^ min (Int.toNat 1) (IntKind.bits IntKind.u64)))) 4611686018427387904)) + 1) < 18446744073709551616) (by first | assumption | omega | with_reducible exact wu _ | exact beq_self_eq_true _) (by kernel_rfl) ?_
    refine H.sb 0 (fun b => ((!b) == false)) (Ieee.Format.order { exponentBits := 11, fractionBits := 52 } (ofO (wr IntKind.u64 (4503599627370495 + wr IntKind.u64 (wi (wr IntKind.i64 (Int.fdiv (List.getD l (0 + Int.toNat (↑i : Int)) 0) 2)) 4611686018427387904)))) (ofO (wr IntKind.u64 (4503599627370495 + wr IntKind.u64 (wi (wr IntKind.i64 (Int.fdiv (List.getD l (0 + Int.toNat (↑i : Int)) 0) 2)) 4611686018427387904)))) == some Ordering.eq) (by kernel_rfl) (fun h3 => ?_) (fun h3 => ?_)
    ·
     refine H.sb 3 (fun b => (!b)) (Ieee.Format.order { exponentBits := 11, fractionBits := 52 } (ofO (wr IntKind.u64 (wr IntKind.u64 (4503599627370495 + wr IntKind.u64 (wi (wr IntKind.i64 (Int.fdiv (List.getD l (0 + Int.toNat (↑i : Int)) 0) 2)) 4611686018427387904)) + 1))) (ofO (wr IntKind.u64 (wr IntKind.u64 (4503599627370495 + wr IntKind.u64 (wi (wr IntKind.i64 (Int.fdiv (List.getD l (0 + Int.toNat (↑i : Int)) 0) 2)) 4611686018427387904)) + 1))) == some Ordering.eq) (by kernel_rfl) (fun h4 => ?_) (fun h4 => ?_)
     ·
      refine H.sd 0 (fun b => b) (ofO (wr IntKind.u64 (4503599627370495 + wr IntKind.u64 (wi (wr IntKind.i64 (Int.fdiv (List.getD l (0 + Int.toNat (↑i : Int)) 0) (2 ^ min (Int.toNat 1) (IntKind.bits IntKind.u64)))) 4611686018427387904))) < 18446744073709551616) (by kernel_rfl) (fun h5 => ?_) (fun h5 => ?_)
      ·
       refine H.sd 0 (fun b => b) (ofO (wr IntKind.u64 (wr IntKind.u64 (4503599627370495 + wr IntKind.u64 (wi (wr IntKind.i64 (Int.fdiv (List.getD l (0 + Int.toNat (↑i : Int)) 0) (2 ^ min (Int.toNat 1) (IntKind.bits IntKind.u64)))) 4611686018427387904)) + 1)) < 18446744073709551616) (by kernel_rfl) (fun h6 => ?_) (fun h6 => ?_)
       ·
        refine H.se 1 (fun b => ((!b) == false)) (cmpO (ofO (wr IntKind.u64 (4503599627370495 + wr IntKind.u64 (wi (wr IntKind.i64 (Int.fdiv (List.getD l (0 + Int.toNat (↑i : Int)) 0) 2)) 4611686018427387904)))) (ofO (wr IntKind.u64 (wr IntKind.u64 (4503599627370495 + wr IntKind.u64 (wi (wr IntKind.i64 (Int.fdiv (List.getD l (0 + Int.toNat (↑i : Int)) 0) 2)) 4611686018427387904)) + 1)))) (-1) (by kernel_rfl) (fun h7 => ?_) (fun h7 => ?_)
        ·
         refine H.kd 1 (fun b => b) (ofO (wr IntKind.u64 (4503599627370495 + wr IntKind.u64 (wi (wr IntKind.i64 (Int.fdiv (List.getD l (0 + Int.toNat (↑i : Int)) 0) (2 ^ min (Int.toNat 1) (IntKind.bits IntKind.u64)))) 4611686018427387904))) < 18446744073709551616) (by first | assumption | omega | with_reducible exact wu _ | exact beq_self_eq_true _) (by kernel_rfl) ?_
         refine H.se 4 (fun b => ((!b) == false)) (bitsO (ofO (wr IntKind.u64 (4503599627370495 + wr IntKind.u64 (wi (wr IntKind.i64 (Int.fdiv (List.getD l (0 + Int.toNat (↑i : Int)) 0) 2)) 4611686018427387904))))) (wr IntKind.u64 (4503599627370495 + wr IntKind.u64 (wi (wr IntKind.i64 (Int.fdiv (List.getD l (0 + Int.toNat (↑i : Int)) 0) 2)) 4611686018427387904))) (by kernel_rfl) (fun h8 => ?_) (fun h8 => ?_)
         ·
          refine H.kd 1 (fun b => b) (ofO (wr IntKind.u64 (wr IntKind.u64 (4503599627370495 + wr IntKind.u64 (wi (wr IntKind.i64 (Int.fdiv (List.getD l (0 + Int.toNat (↑i : Int)) 0) (2 ^ min (Int.toNat 1) (IntKind.bits IntKind.u64)))) 4611686018427387904)) + 1)) < 18446744073709551616) (by first | assumption | omega | with_reducible exact wu _ | exact beq_self_eq_true _) (by kernel_rfl) ?_
          refine H.se 6 (fun b => (!b)) (bitsO (ofO (wr IntKind.u64 (wr IntKind.u64 (4503599627370495 + wr IntKind.u64 (wi (wr IntKind.i64 (Int.fdiv (List.getD l (0 + Int.toNat (↑i : Int)) 0) 2)) 4611686018427387904)) + 1)))) (wr IntKind.u64 (wr IntKind.u64 (4503599627370495 + wr IntKind.u64 (wi (wr IntKind.i64 (Int.fdiv (List.getD l (0 + Int.toNat (↑i : Int)) 0) 2)) 4611686018427387904)) + 1)) (by kernel_rfl) (fun h9 => ?_) (fun h9 => ?_)
          ·
           refine H.sb 1 (fun b => b) (Option.isSome (floatBits BinOp.quo FloatKind.f64 (ofO (wr IntKind.u64 (4503599627370495 + wr IntKind.u64 (wi (wr IntKind.i64 (Int.fdiv (List.getD l (0 + Int.toNat (↑i : Int)) 0) 2)) 4611686018427387904)))) 4611686018427387904)) (by kernel_rfl) (fun h10 => ?_) (fun h10 => ?_)
           ·
            refine H.sb 1 (fun b => b) (Option.isSome (floatBits BinOp.quo FloatKind.f64 (ofO (wr IntKind.u64 (wr IntKind.u64 (4503599627370495 + wr IntKind.u64 (wi (wr IntKind.i64 (Int.fdiv (List.getD l (0 + Int.toNat (↑i : Int)) 0) 2)) 4611686018427387904)) + 1))) 4611686018427387904)) (by kernel_rfl) (fun h11 => ?_) (fun h11 => ?_)
            ·
             refine H.sb 1 (fun b => b) (Option.isSome (floatBits BinOp.add FloatKind.f64 (Option.getD (floatBits BinOp.quo FloatKind.f64 (ofO (wr IntKind.u64 (4503599627370495 + wr IntKind.u64 (wi (wr IntKind.i64 (Int.fdiv (List.getD l (0 + Int.toNat (↑i : Int)) 0) 2)) 4611686018427387904)))) 4611686018427387904) 0) (Option.getD (floatBits BinOp.quo FloatKind.f64 (ofO (wr IntKind.u64 (wr IntKind.u64 (4503599627370495 + wr IntKind.u64 (wi (wr IntKind.i64 (Int.fdiv (List.getD l (0 + Int.toNat (↑i : Int)) 0) 2)) 4611686018427387904)) + 1))) 4611686018427387904) 0))) (by kernel_rfl) (fun h12 => ?_) (fun h12 => ?_)
             ·
              refine H.sd 0 (fun b => b) (Option.getD (floatBits BinOp.add FloatKind.f64 (Option.getD (floatBits BinOp.quo FloatKind.f64 (ofO (wr IntKind.u64 (4503599627370495 + wr IntKind.u64 (wi (wr IntKind.i64 (Int.fdiv (List.getD l (0 + Int.toNat (↑i : Int)) 0) (2 ^ min (Int.toNat 1) (IntKind.bits IntKind.u64)))) 4611686018427387904)))) 4611686018427387904) 0) (Option.getD (floatBits BinOp.quo FloatKind.f64 (ofO (wr IntKind.u64 (wr IntKind.u64 (4503599627370495 + wr IntKind.u64 (wi (wr IntKind.i64 (Int.fdiv (List.getD l (0 + Int.toNat (↑i : Int)) 0) (2 ^ min (Int.toNat 1) (IntKind.bits IntKind.u64)))) 4611686018427387904)) + 1))) 4611686018427387904) 0)) 0 < 18446744073709551616) (by kernel_rfl) (fun h13 => ?_) (fun h13 => ?_)
              ·
               refine H.kd 0 (fun b => b) (ofO (wr IntKind.u64 (4503599627370495 + wr IntKind.u64 (wi (wr IntKind.i64 (Int.fdiv (List.getD l (0 + Int.toNat (↑i : Int)) 0) (2 ^ min (Int.toNat 1) (IntKind.bits IntKind.u64)))) 4611686018427387904))) < 18446744073709551616) (by first | assumption | omega | with_reducible exact wu _ | exact beq_self_eq_true _) (by kernel_rfl) ?_
               refine H.sd 1 (fun b => (b == true)) (cmpO (Option.getD (floatBits BinOp.add FloatKind.f64 (Option.getD (floatBits BinOp.quo FloatKind.f64 (ofO (wr IntKind.u64 (4503599627370495 + wr IntKind.u64 (wi (wr IntKind.i64 (Int.fdiv (List.getD l (0 + Int.toNat (↑i : Int)) 0) (2 ^ min (Int.toNat 1) (IntKind.bits IntKind.u64)))) 4611686018427387904)))) 4611686018427387904) 0) (Option.getD (floatBits BinOp.quo FloatKind.f64 (ofO (wr IntKind.u64 (wr IntKind.u64 (4503599627370495 + wr IntKind.u64 (wi (wr IntKind.i64 (Int.fdiv (List.getD l (0 + Int.toNat (↑i : Int)) 0) (2 ^ min (Int.toNat 1) (IntKind.bits IntKind.u64)))) 4611686018427387904)) + 1))) 4611686018427387904) 0)) 0) (ofO (wr IntKind.u64 (4503599627370495 + wr IntKind.u64 (wi (wr IntKind.i64 (Int.fdiv (List.getD l (0 + Int.toNat (↑i : Int)) 0) (2 ^ min (Int.toNat 1) (IntKind.bits IntKind.u64)))) 4611686018427387904)))) > 0) (by kernel_rfl) (fun h14 => ?_) (fun h14 => ?_)
               ·
                refine H.kd 2 (fun b => b) (Option.getD (floatBits BinOp.add FloatKind.f64 (Option.getD (floatBits BinOp.quo FloatKind.f64 (ofO (wr IntKind.u64 (4503599627370495 + wr IntKind.u64 (wi (wr IntKind.i64 (Int.fdiv (List.getD l (0 + Int.toNat (↑i : Int)) 0) (2 ^ min (Int.toNat 1) (IntKind.bits IntKind.u64)))) 4611686018427387904)))) 4611686018427387904) 0) (Option.getD (floatBits BinOp.quo FloatKind.f64 (ofO (wr IntKind.u64 (wr IntKind.u64 (4503599627370495 + wr IntKind.u64 (wi (wr IntKind.i64 (Int.fdiv (List.getD l (0 + Int.toNat (↑i : Int)) 0) (2 ^ min (Int.toNat 1) (IntKind.bits IntKind.u64)))) 4611686018427387904)) + 1))) 4611686018427387904) 0)) 0 < 18446744073709551616) (by first | assumption | omega | with_reducible exact wu _ | exact beq_self_eq_true _) (by kernel_rfl) ?_
                refine H.kd 0 (fun b => b) (ofO (wr IntKind.u64 (wr IntKind.u64 (4503599627370495 + wr IntKind.u64 (wi (wr IntKind.i64 (Int.fdiv (List.getD l (0 + Int.toNat (↑i : Int)) 0) (2 ^ min (Int.toNat 1) (IntKind.bits IntKind.u64)))) 4611686018427387904)) + 1)) < 18446744073709551616) (by first | assumption | omega | with_reducible exact wu _ | exact beq_self_eq_true _) (by kernel_rfl) ?_
                refine H.sd 3 (fun b => b) (cmpO (Option.getD (floatBits BinOp.add FloatKind.f64 (Option.getD (floatBits BinOp.quo FloatKind.f64 (ofO (wr IntKind.u64 (4503599627370495 + wr IntKind.u64 (wi (wr IntKind.i64 (Int.fdiv (List.getD l (0 + Int.toNat (↑i : Int)) 0) (2 ^ min (Int.toNat 1) (IntKind.bits IntKind.u64)))) 4611686018427387904)))) 4611686018427387904) 0) (Option.getD (floatBits BinOp.quo FloatKind.f64 (ofO (wr IntKind.u64 (wr IntKind.u64 (4503599627370495 + wr IntKind.u64 (wi (wr IntKind.i64 (Int.fdiv (List.getD l (0 + Int.toNat (↑i : Int)) 0) (2 ^ min (Int.toNat 1) (IntKind.bits IntKind.u64)))) 4611686018427387904)) + 1))) 4611686018427387904) 0)) 0) (ofO (wr IntKind.u64 (wr IntKind.u64 (4503599627370495 + wr IntKind.u64 (wi (wr IntKind.i64 (Int.fdiv (List.getD l (0 + Int.toNat (↑i : Int)) 0) (2 ^ min (Int.toNat 1) (IntKind.bits IntKind.u64)))) 4611686018427387904)) + 1))) < 0) (by kernel_rfl) (fun h15 => ?_) (fun h15 => ?_)
                ·
                 refine H.lf (f := oc2) 0 (Sum.inr (Sum.inl (AV.b false))) (by kernel_rfl) ?_
                 exfalso; first | (with_reducible first | exact absurd (ofO_lt (wu _).1 (wu _).2) (by assumption) | exact e7 (by assumption) (by assumption) (by assumption) | exact e8 (by assumption) (by assumption) | exact e9 (by assumption) (by assumption) | exact e10 (by assumption) (by assumption) | exact e12 (by assumption) (by assumption) (by assumption) | exact e13 (by assumption) (by assumption) (by assumption) | exact e15 (by assumption) (by assumption) (by assumption) (by assumption) | exact k1 (by assumption) | exact k2 (by assumption) | exact k3 (by assumption)) | exact absurd (ofO_lt (wu _).1 (wu _).2) (by assumption) | exact e7 (by assumption) (by assumption) (by assumption) | exact e8 (by assumption) (by assumption) | exact e9 (by assumption) (by assumption) | exact e10 (by assumption) (by assumption) | exact e12 (by assumption) (by assumption) (by assumption) | exact e13 (by assumption) (by assumption) (by assumption) | exact e15 (by assumption) (by assumption) (by assumption) (by assumption) | exact k1 (by assumption) | exact k2 (by assumption) | exact k3 (by assumption)
                ·
                 refine H.lf (f := oc2) 1 (Sum.inl ([AV.sl 0 0 n (some cap), AV.i IntKind.i64 (wr IntKind.i64 ((↑i : Int) + 1))], 1, [AObj.ro nl n [Col.ci IntKind.u64 l]])) (by kernel_rfl) ?_
                 first | exact ag6 hmi (by omega) | exact rfl
               ·
                refine H.lf (f := oc2) 6 (Sum.inl ([AV.sl 0 0 n (some cap), AV.i IntKind.i64 (wr IntKind.i64 ((↑i : Int) + 1))], 1, [AObj.ro nl n [Col.ci IntKind.u64 l]])) (by kernel_rfl) ?_
                first | exact ag6 hmi (by omega) | exact rfl
              ·
               exfalso; first | (with_reducible first | exact absurd (ofO_lt (wu _).1 (wu _).2) (by assumption) | exact e7 (by assumption) (by assumption) (by assumption) | exact e8 (by assumption) (by assumption) | exact e9 (by assumption) (by assumption) | exact e10 (by assumption) (by assumption) | exact e12 (by assumption) (by assumption) (by assumption) | exact e13 (by assumption) (by assumption) (by assumption) | exact e15 (by assumption) (by assumption) (by assumption) (by assumption) | exact k1 (by assumption) | exact k2 (by assumption) | exact k3 (by assumption)) | exact absurd (ofO_lt (wu _).1 (wu _).2) (by assumption) | exact e7 (by assumption) (by assumption) (by assumption) | exact e8 (by assumption) (by assumption) | exact e9 (by assumption) (by assumption) | exact e10 (by assumption) (by assumption) | exact e12 (by assumption) (by assumption) (by assumption) | exact e13 (by assumption) (by assumption) (by assumption) | exact e15 (by assumption) (by assumption) (by assumption) (by assumption) | exact k1 (by assumption) | exact k2 (by assumption) | exact k3 (by assumption)
             ·
              exfalso; first | (with_reducible first | exact absurd (ofO_lt (wu _).1 (wu _).2) (by assumption) | exact e7 (by assumption) (by assumption) (by assumption) | exact e8 (by assumption) (by assumption) | exact e9 (by assumption) (by assumption) | exact e10 (by assumption) (by assumption) | exact e12 (by assumption) (by assumption) (by assumption) | exact e13 (by assumption) (by assumption) (by assumption) | exact e15 (by assumption) (by assumption) (by assumption) (by assumption) | exact k1 (by assumption) | exact k2 (by assumption) | exact k3 (by assumption)) | exact absurd (ofO_lt (wu _).1 (wu _).2) (by assumption) | exact e7 (by assumption) (by assumption) (by assumption) | exact e8 (by assumption) (by assumption) | exact e9 (by assumption) (by assumption) | exact e10 (by assumption) (by assumption) | exact e12 (by assumption) (by assumption) (by assumption) | exact e13 (by assumption) (by assumption) (by assumption) | exact e15 (by assumption) (by assumption) (by assumption) (by assumption) | exact k1 (by assumption) | exact k2 (by assumption) | exact k3 (by assumption)
            ·
             exfalso; first | (with_reducible first | exact absurd (ofO_lt (wu _).1 (wu _).2) (by assumption) | exact e7 (by assumption) (by assumption) (by assumption) | exact e8 (by assumption) (by assumption) | exact e9 (by assumption) (by assumption) | exact e10 (by assumption) (by assumption) | exact e12 (by assumption) (by assumption) (by assumption) | exact e13 (by assumption) (by assumption) (by assumption) | exact e15 (by assumption) (by assumption) (by assumption) (by assumption) | exact k1 (by assumption) | exact k2 (by assumption) | exact k3 (by assumption)) | exact absurd (ofO_lt (wu _).1 (wu _).2) (by assumption) | exact e7 (by assumption) (by assumption) (by assumption) | exact e8 (by assumption) (by assumption) | exact e9 (by assumption) (by assumption) | exact e10 (by assumption) (by assumption) | exact e12 (by assumption) (by assumption) (by assumption) | exact e13 (by assumption) (by assumption) (by assumption) | exact e15 (by assumption) (by assumption) (by assumption) (by assumption) | exact k1 (by assumption) | exact k2 (by assumption) | exact k3 (by assumption)
           ·
            exfalso; first | (with_reducible first | exact absurd (ofO_lt (wu _).1 (wu _).2) (by assumption) | exact e7 (by assumption) (by assumption) (by assumption) | exact e8 (by assumption) (by assumption) | exact e9 (by assumption) (by assumption) | exact e10 (by assumption) (by assumption) | exact e12 (by assumption) (by assumption) (by assumption) | exact e13 (by assumption) (by assumption) (by assumption) | exact e15 (by assumption) (by assumption) (by assumption) (by assumption) | exact k1 (by assumption) | exact k2 (by assumption) | exact k3 (by assumption)) | exact absurd (ofO_lt (wu _).1 (wu _).2) (by assumption) | exact e7 (by assumption) (by assumption) (by assumption) | exact e8 (by assumption) (by assumption) | exact e9 (by assumption) (by assumption) | exact e10 (by assumption) (by assumption) | exact e12 (by assumption) (by assumption) (by assumption) | exact e13 (by assumption) (by assumption) (by assumption) | exact e15 (by assumption) (by assumption) (by assumption) (by assumption) | exact k1 (by assumption) | exact k2 (by assumption) | exact k3 (by assumption)
          ·
           refine H.lf (f := oc2) 0 (Sum.inr (Sum.inl (AV.b false))) (by kernel_rfl) ?_
           exfalso; first | (with_reducible first | exact absurd (ofO_lt (wu _).1 (wu _).2) (by assumption) | exact e7 (by assumption) (by assumption) (by assumption) | exact e8 (by assumption) (by assumption) | exact e9 (by assumption) (by assumption) | exact e10 (by assumption) (by assumption) | exact e12 (by assumption) (by assumption) (by assumption) | exact e13 (by assumption) (by assumption) (by assumption) | exact e15 (by assumption) (by assumption) (by assumption) (by assumption) | exact k1 (by assumption) | exact k2 (by assumption) | exact k3 (by assumption)) | exact absurd (ofO_lt (wu _).1 (wu _).2) (by assumption) | exact e7 (by assumption) (by assumption) (by assumption) | exact e8 (by assumption) (by assumption) | exact e9 (by assumption) (by assumption) | exact e10 (by assumption) (by assumption) | exact e12 (by assumption) (by assumption) (by assumption) | exact e13 (by assumption) (by assumption) (by assumption) | exact e15 (by assumption) (by assumption) (by assumption) (by assumption) | exact k1 (by assumption) | exact k2 (by assumption) | exact k3 (by assumption)
         ·
          refine H.lf (f := oc2) 6 (Sum.inr (Sum.inl (AV.b false))) (by kernel_rfl) ?_
          exfalso; first | (with_reducible first | exact absurd (ofO_lt (wu _).1 (wu _).2) (by assumption) | exact e7 (by assumption) (by assumption) (by assumption) | exact e8 (by assumption) (by assumption) | exact e9 (by assumption) (by assumption) | exact e10 (by assumption) (by assumption) | exact e12 (by assumption) (by assumption) (by assumption) | exact e13 (by assumption) (by assumption) (by assumption) | exact e15 (by assumption) (by assumption) (by assumption) (by assumption) | exact k1 (by assumption) | exact k2 (by assumption) | exact k3 (by assumption)) | exact absurd (ofO_lt (wu _).1 (wu _).2) (by assumption) | exact e7 (by assumption) (by assumption) (by assumption) | exact e8 (by assumption) (by assumption) | exact e9 (by assumption) (by assumption) | exact e10 (by assumption) (by assumption) | exact e12 (by assumption) (by assumption) (by assumption) | exact e13 (by assumption) (by assumption) (by assumption) | exact e15 (by assumption) (by assumption) (by assumption) (by assumption) | exact k1 (by assumption) | exact k2 (by assumption) | exact k3 (by assumption)
        ·
         refine H.lf (f := oc2) 11 (Sum.inr (Sum.inl (AV.b false))) (by kernel_rfl) ?_
         exfalso; first | (with_reducible first | exact absurd (ofO_lt (wu _).1 (wu _).2) (by assumption) | exact e7 (by assumption) (by assumption) (by assumption) | exact e8 (by assumption) (by assumption) | exact e9 (by assumption) (by assumption) | exact e10 (by assumption) (by assumption) | exact e12 (by assumption) (by assumption) (by assumption) | exact e13 (by assumption) (by assumption) (by assumption) | exact e15 (by assumption) (by assumption) (by assumption) (by assumption) | exact k1 (by assumption) | exact k2 (by assumption) | exact k3 (by assumption)) | exact absurd (ofO_lt (wu _).1 (wu _).2) (by assumption) | exact e7 (by assumption) (by assumption) (by assumption) | exact e8 (by assumption) (by assumption) | exact e9 (by assumption) (by assumption) | exact e10 (by assumption) (by assumption) | exact e12 (by assumption) (by assumption) (by assumption) | exact e13 (by assumption) (by assumption) (by assumption) | exact e15 (by assumption) (by assumption) (by assumption) (by assumption) | exact k1 (by assumption) | exact k2 (by assumption) | exact k3 (by assumption)
       ·
        exfalso; first | (with_reducible first | exact absurd (ofO_lt (wu _).1 (wu _).2) (by assumption) | exact e7 (by assumption) (by assumption) (by assumption) | exact e8 (by assumption) (by assumption) | exact e9 (by assumption) (by assumption) | exact e10 (by assumption) (by assumption) | exact e12 (by assumption) (by assumption) (by assumption) | exact e13 (by assumption) (by assumption) (by assumption) | exact e15 (by assumption) (by assumption) (by assumption) (by assumption) | exact k1 (by assumption) | exact k2 (by assumption) | exact k3 (by assumption)) | exact absurd (ofO_lt (wu _).1 (wu _).2) (by assumption) | exact e7 (by assumption) (by assumption) (by assumption) | exact e8 (by assumption) (by assumption) | exact e9 (by assumption) (by assumption) | exact e10 (by assumption) (by assumption) | exact e12 (by assumption) (by assumption) (by assumption) | exact e13 (by assumption) (by assumption) (by assumption) | exact e15 (by assumption) (by assumption) (by assumption) (by assumption) | exact k1 (by assumption) | exact k2 (by assumption) | exact k3 (by assumption)
      ·
       exfalso; first | (with_reducible first | exact absurd (ofO_lt (wu _).1 (wu _).2) (by assumption) | exact e7 (by assumption) (by assumption) (by assumption) | exact e8 (by assumption) (by assumption) | exact e9 (by assumption) (by assumption) | exact e10 (by assumption) (by assumption) | exact e12 (by assumption) (by assumption) (by assumption) | exact e13 (by assumption) (by assumption) (by assumption) | exact e15 (by assumption) (by assumption) (by assumption) (by assumption) | exact k1 (by assumption) | exact k2 (by assumption) | exact k3 (by assumption)) | exact absurd (ofO_lt (wu _).1 (wu _).2) (by assumption) | exact e7 (by assumption) (by assumption) (by assumption) | exact e8 (by assumption) (by assumption) | exact e9 (by assumption) (by assumption) | exact e10 (by assumption) (by assumption) | exact e12 (by assumption) (by assumption) (by assumption) | exact e13 (by assumption) (by assumption) (by assumption) | exact e15 (by assumption) (by assumption) (by assumption) (by assumption) | exact k1 (by assumption) | exact k2 (by assumption) | exact k3 (by assumption)
     ·
      refine H.lf (f := oc2) 1 (Sum.inl ([AV.sl 0 0 n (some cap), AV.i IntKind.i64 (wr IntKind.i64 ((↑i : Int) + 1))], 1, [AObj.ro nl n [Col.ci IntKind.u64 l]])) (by kernel_rfl) ?_
      first | exact ag6 hmi (by omega) | exact rfl
    ·
     refine H.lf (f := oc2) 5 (Sum.inl ([AV.sl 0 0 n (some cap), AV.i IntKind.i64 (wr IntKind.i64 ((↑i : Int) + 1))], 1, [AObj.ro nl n [Col.ci IntKind.u64 l]])) (by kernel_rfl) ?_
     first | exact ag6 hmi (by omega) | exact rfl
   ·
    refine H.se 5 (fun b => (b == true)) (bitsO (Int.toNat 18442240474082181120)) (4503599627370495) (by kernel_rfl) (fun h3 => ?_) (fun h3 => ?_)
    ·
     refine H.se 8 (fun b => (b == true)) (bitsO (Int.toNat 9218868437227405312)) (18442240474082181120) (by kernel_rfl) (fun h4 => ?_) (fun h4 => ?_)
     ·
      refine H.sd 4 (fun b => b) (ofO 0 = Int.toNat 9221120237041090561) (by kernel_rfl) (fun h5 => ?_) (fun h5 => ?_)
      ·
       refine H.lf (f := oc2) 3 (Sum.inr (Sum.inl (AV.b true))) (by kernel_rfl) ?_
       first | exact ag6 hmi (by omega) | exact rfl
      ·
       exfalso; first | (with_reducible first | exact absurd (ofO_lt (wu _).1 (wu _).2) (by assumption) | exact e7 (by assumption) (by assumption) (by assumption) | exact e8 (by assumption) (by assumption) | exact e9 (by assumption) (by assumption) | exact e10 (by assumption) (by assumption) | exact e12 (by assumption) (by assumption) (by assumption) | exact e13 (by assumption) (by assumption) (by assumption) | exact e15 (by assumption) (by assumption) (by assumption) (by assumption) | exact k1 (by assumption) | exact k2 (by assumption) | exact k3 (by assumption)) | exact absurd (ofO_lt (wu _).1 (wu _).2) (by assumption) | exact e7 (by assumption) (by assumption) (by assumption) | exact e8 (by assumption) (by assumption) | exact e9 (by assumption) (by assumption) | exact e10 (by assumption) (by assumption) | exact e12 (by assumption) (by assumption) (by assumption) | exact e13 (by assumption) (by assumption) (by assumption) | exact e15 (by assumption) (by assumption) (by assumption) (by assumption) | exact k1 (by assumption) | exact k2 (by assumption) | exact k3 (by assumption)
     ·
      refine H.lf (f := oc2) 5 (Sum.inr (Sum.inl (AV.b false))) (by kernel_rfl) ?_
      exfalso; first | (with_reducible first | exact absurd (ofO_lt (wu _).1 (wu _).2) (by assumption) | exact e7 (by assumption) (by assumption) (by assumption) | exact e8 (by assumption) (by assumption) | exact e9 (by assumption) (by assumption) | exact e10 (by assumption) (by assumption) | exact e12 (by assumption) (by assumption) (by assumption) | exact e13 (by assumption) (by assumption) (by assumption) | exact e15 (by assumption) (by assumption) (by assumption) (by assumption) | exact k1 (by assumption) | exact k2 (by assumption) | exact k3 (by assumption)) | exact absurd (ofO_lt (wu _).1 (wu _).2) (by assumption) | exact e7 (by assumption) (by assumption) (by assumption) | exact e8 (by assumption) (by assumption) | exact e9 (by assumption) (by assumption) | exact e10 (by assumption) (by assumption) | exact e12 (by assumption) (by assumption) (by assumption) | exact e13 (by assumption) (by assumption) (by assumption) | exact e15 (by assumption) (by assumption) (by assumption) (by assumption) | exact k1 (by assumption) | exact k2 (by assumption) | exact k3 (by assumption)
    ·
     refine H.lf (f := oc2) 9 (Sum.inr (Sum.inl (AV.b false))) (by kernel_rfl) ?_
     exfalso; first | (with_reducible first | exact absurd (ofO_lt (wu _).1 (wu _).2) (by assumption) | exact e7 (by assumption) (by assumption) (by assumption) | exact e8 (by assumption) (by assumption) | exact e9 (by assumption) (by assumption) | exact e10 (by assumption) (by assumption) | exact e12 (by assumption) (by assumption) (by assumption) | exact e13 (by assumption) (by assumption) (by assumption) | exact e15 (by assumption) (by assumption) (by assumption) (by assumption) | exact k1 (by assumption) | exact k2 (by assumption) | exact k3 (by assumption)) | exact absurd (ofO_lt (wu _).1 (wu _).2) (by assumption) | exact e7 (by assumption) (by assumption) (by assumption) | exact e8 (by assumption) (by assumption) | exact e9 (by assumption) (by assumption) | exact e10 (by assumption) (by assumption) | exact e12 (by assumption) (by assumption) (by assumption) | exact e13 (by assumption) (by assumption) (by assumption) | exact e15 (by assumption) (by assumption) (by assumption) (by assumption) | exact k1 (by assumption) | exact k2 (by assumption) | exact k3 (by assumption)
  ·
   refine H.se 8 (fun b => (b == true)) (bitsO (Int.toNat 18442240474082181120)) (4503599627370495) (by kernel_rfl) (fun h2 => ?_) (fun h2 => ?_)
   ·
    refine H.se 8 (fun b => (b == true)) (bitsO (Int.toNat 9218868437227405312)) (18442240474082181120) (by kernel_rfl) (fun h3 => ?_) (fun h3 => ?_)
    ·
     refine H.sd 4 (fun b => b) (ofO 0 = Int.toNat 9221120237041090561) (by kernel_rfl) (fun h4 => ?_) (fun h4 => ?_)
     ·
      refine H.lf (f := oc2) 3 (Sum.inr (Sum.inl (AV.b true))) (by kernel_rfl) ?_
      first | exact ag6 hmi (by omega) | exact rfl
     ·
      exfalso; first | (with_reducible first | exact absurd (ofO_lt (wu _).1 (wu _).2) (by assumption) | exact e7 (by assumption) (by assumption) (by assumption) | exact e8 (by assumption) (by assumption) | exact e9 (by assumption) (by assumption) | exact e10 (by assumption) (by assumption) | exact e12 (by assumption) (by assumption) (by assumption) | exact e13 (by assumption) (by assumption) (by assumption) | exact e15 (by assumption) (by assumption) (by assumption) (by assumption) | exact k1 (by assumption) | exact k2 (by assumption) | exact k3 (by assumption)) | exact absurd (ofO_lt (wu _).1 (wu _).2) (by assumption) | exact e7 (by assumption) (by assumption) (by assumption) | exact e8 (by assumption) (by assumption) | exact e9 (by assumption) (by assumption) | exact e10 (by assumption) (by assumption) | exact e12 (by assumption) (by assumption) (by assumption) | exact e13 (by assumption) (by assumption) (by assumption) | exact e15 (by assumption) (by assumption) (by assumption) (by assumption) | exact k1 (by assumption) | exact k2 (by assumption) | exact k3 (by assumption)
    ·
     refine H.lf (f := oc2) 5 (Sum.inr (Sum.inl (AV.b false))) (by kernel_rfl) ?_
     exfalso; first | (with_reducible first | exact absurd (ofO_lt (wu _).1 (wu _).2) (by assumption) | exact e7 (by assumption) (by assumption) (by assumption) | exact e8 (by assumption) (by assumption) | exact e9 (by assumption) (by assumption) | exact e10 (by assumption) (by assumption) | exact e12 (by assumption) (by assumption) (by assumption) | exact e13 (by assumption) (by assumption) (by assumption) | exact e15 (by assumption) (by assumption) (by assumption) (by assumption) | exact k1 (by assumption) | exact k2 (by assumption) | exact k3 (by assumption)) | exact absurd (ofO_lt (wu _).1 (wu _).2) (by assumption) | exact e7 (by assumption) (by assumption) (by assumption) | exact e8 (by assumption) (by assumption) | exact e9 (by assumption) (by assumption) | exact e10 (by assumption) (by assumption) | exact e12 (by assumption) (by assumption) (by assumption) | exact e13 (by assumption) (by assumption) (by assumption) | exact e15 (by assumption) (by assumption) (by assumption) (by assumption) | exact k1 (by assumption) | exact k2 (by assumption) | exact k3 (by assumption)
   ·
    refine H.lf (f := oc2) 9 (Sum.inr (Sum.inl (AV.b false))) (by kernel_rfl) ?_
    exfalso; first | (with_reducible first | exact absurd (ofO_lt (wu _).1 (wu _).2) (by assumption) | exact e7 (by assumption) (by assumption) (by assumption) | exact e8 (by assumption) (by assumption) | exact e9 (by assumption) (by assumption) | exact e10 (by assumption) (by assumption) | exact e12 (by assumption) (by assumption) (by assumption) | exact e13 (by assumption) (by assumption) (by assumption) | exact e15 (by assumption) (by assumption) (by assumption) (by assumption) | exact k1 (by assumption) | exact k2 (by assumption) | exact k3 (by assumption)) | exact absurd (ofO_lt (wu _).1 (wu _).2) (by assumption) | exact e7 (by assumption) (by assumption) (by assumption) | exact e8 (by assumption) (by assumption) | exact e9 (by assumption) (by assumption) | exact e10 (by assumption) (by assumption) | exact e12 (by assumption) (by assumption) (by assumption) | exact e13 (by assumption) (by assumption) (by assumption) | exact e15 (by assumption) (by assumption) (by assumption) (by assumption) | exact k1 (by assumption) | exact k2 (by assumption) | exact k3 (by assumption)
theorem law6 : H (ev Sc 5 6 [.sl 0 0 n (some cap)] (memL 1 [.ro nl n [.ci .u64 l]])) (fun x => x.1 = .b true) (fun _ _ => False) := by
  refine law1 (fi := fi6 false) (by kernel_rfl) (by kernel_rfl) (by kernel_rfl) rfl [0, 1, 0, 1] 1 1 rfl (by kernel_rfl) (I6 nl n cap l) ?_ step6
  refine lawE_Q ?_
  refine H.lf (f := oc) 0 (Sum.inr ([0, 1, 0, 1], 1, [.sl 0 0 n (some cap), iv 0], 1, [.ro nl n [.ci .u64 l]])) (by kernel_rfl) ?_
  have hlt : 30 - 0 < 1048576 := by omega
  exact ⟨rfl, rfl, _, hlt, 0, by omega, rfl, rfl⟩
end
end Go.Proofs.TabR
