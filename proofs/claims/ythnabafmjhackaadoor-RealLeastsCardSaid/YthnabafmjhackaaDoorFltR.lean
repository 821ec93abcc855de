/- Floats as words: what comparing, clamping and noting them gives, in plain numbers; each lemma names its conditions. -/
import Derived.Test.YthnabafmjhackaaDoorBaseR
set_option linter.all false
set_option linter.deprecated false
set_option maxRecDepth 1000000
set_option maxHeartbeats 4000000
namespace Go.Proofs.TabR
open Go Go.Eng
noncomputable def g42 : List AV → T AV
  | [.i .u64 n] => .ret (.v (.float .f64 n.toNat))
  | _ => .fail
noncomputable def g32 : List AV → T AV
  | [.v (.float .f64 n)] => .ret (.i .u64 (uI n))
  | _ => .fail
noncomputable def Sx : Sp := fun n => bif2 (Nat.beq n 42) (some (treeS g42)) (bif2 (Nat.beq n 32) (some (treeS g32)) none)
noncomputable def g20 : List AV → T AV
  | [.v (.float .f64 x)] => .br (decide (x < 18446744073709551616)) (.ret (.i .u64 (bitsO x))) .fail
  | _ => .fail
noncomputable def g21 : List AV → T AV
  | [.v (.float .f64 x)] => .br (decide (x < 18446744073709551616)) (.ret (.i .u64 (bitsO x))) .fail
  | _ => .fail
noncomputable def g17 : List AV → T AV
  | [.v (.float .f64 x), .v (.float .f64 y)] => .br (decide (x < 18446744073709551616)) (.br (decide (y < 18446744073709551616)) (.ret (iv (cmpO x y))) .fail) .fail
  | _ => .fail
noncomputable def g18 : List AV → T AV
  | [.v (.float .f64 x), .v (.float .f64 y)] => .br (decide (x < 18446744073709551616)) (.br (decide (y < 18446744073709551616)) (.ret (iv (cmpO x y))) .fail) .fail
  | _ => .fail
noncomputable def g19 : List AV → T AV
  | [.v (.float .f64 x), .v (.float .f64 y)] => .br (decide (x < 18446744073709551616)) (.br (decide (y < 18446744073709551616)) (.ret (.b (cmpO x y == 0))) .fail) .fail
  | _ => .fail
noncomputable def g33 : List AV → T AV
  | [.v (.float .f64 x), .v (.float .f64 a), .v (.float .f64 b)] => .br (decide (x < 18446744073709551616)) (.br (decide (a < 18446744073709551616)) (.br (decide (b < 18446744073709551616)) (.ret (fv (clampO x a b))) .fail) .fail) .fail
  | _ => .fail
noncomputable def g34 : List AV → T AV
  | [.v (.float .f64 x), .v (.float .f64 a), .v (.float .f64 b)] => .br (decide (x < 18446744073709551616)) (.br (decide (a < 18446744073709551616)) (.br (decide (b < 18446744073709551616)) (.ret (fv (clampO x a b))) .fail) .fail) .fail
  | _ => .fail
noncomputable def g22 : List AV → T AV
  | [.v (.float .f64 x), .v (.float .f64 y)] => .br (decide (x = y)) (.ret (.b true)) .fail
  | _ => .fail
noncomputable def S1 : Sp := fun n => bif2 (Nat.beq n 20) (some (treeS g20)) (bif2 (Nat.beq n 21) (some (treeS g21)) (Sx n))
noncomputable def S2 : Sp := fun n => bif2 (Nat.beq n 17) (some (treeS g17)) (bif2 (Nat.beq n 18) (some (treeS g18)) (S1 n))
noncomputable def S3 : Sp := fun n => bif2 (Nat.beq n 33) (some (treeS g33)) (bif2 (Nat.beq n 34) (some (treeS g34)) (bif2 (Nat.beq n 19) (some (treeS g19)) (S2 n)))
noncomputable def S4 : Sp := fun n => S3 n
noncomputable def S5 : Sp := fun n => bif2 (Nat.beq n 22) (some (treeS g22)) (S4 n)
noncomputable def S6 : Sp := fun n => S5 n
noncomputable def S8 : Sp := fun n => S6 n

theorem x42 (N : NB) (R : Sp) (hR : SOk Tryd.prog N R) : SOk Tryd.prog N (fun f => bif2 (Nat.beq f 42) (some (treeS g42)) (R f)) := by
  refine sOk_ext hR (fn := Tryd.f42) (e := Extern.MathFloatBits.float64frombits) Tryd.func42 (by kernel_rfl) (by kernel_rfl) (by kernel_rfl) (by kernel_rfl) ?_
  intro args Q h φ zs hr w
  unfold g42 at h
  split at h
  · cases hr with | cons h1 h2 => cases h2; cases h1; exact ⟨_, _, rfl, h, .v _⟩
  · exact h.elim
theorem x32 (N : NB) (R : Sp) (hR : SOk Tryd.prog N R) : SOk Tryd.prog N (fun f => bif2 (Nat.beq f 32) (some (treeS g32)) (R f)) := by
  refine sOk_ext hR (fn := Tryd.f32) (e := Extern.MathFloatBits.float64bits) Tryd.func32 (by kernel_rfl) (by kernel_rfl) (by kernel_rfl) (by kernel_rfl) ?_
  intro args Q h φ zs hr w
  unfold g32 at h
  split at h
  · rename_i n
    rw [uI_eq] at h
    cases hr with | cons h1 h2 => cases h2; cases h1; exact ⟨_, _, rfl, h, .i _ _⟩
  · exact h.elim
theorem sx (N : NB) : SOk Tryd.prog N Sx := x42 N _ (x32 N _ (sn N))

theorem c20 : Ctr Sx 20 g20 := by
  intro args Q h
  unfold g20 at h
  split at h
  · rename_i x
    obtain ⟨hx, h⟩ := br_ok h
    have hx := of_decide_eq_true hx
    have key : ∀ v : Int, v = bitsO x → PQ Q (.i .u64 v) := fun v e => e ▸ ⟨rfl, h⟩
    refine ⟨rfl, ?_⟩
    refine H.sb 1 (fun b => (!b)) (Ieee.Format.order { exponentBits := 11, fractionBits := 52 } x x == some Ordering.eq) (by kernel_rfl) (fun h1 => ?_) (fun h1 => ?_)
    ·
     refine H.sd 1 (fun b => b) (uI x < 9223372036854775808) (by kernel_rfl) (fun h2 => ?_) (fun h2 => ?_)
     ·
      refine H.lf (f := Prod.fst) 1 (AV.i IntKind.u64 (wr IntKind.u64 (↑(BitVec.toNat (BitVec.ofInt 64 (uI x) ||| BitVec.ofInt 64 9223372036854775808)) : Int))) (by kernel_rfl) ?_
      first | exact key _ (b_nan (by assumption)) | exact key _ (b_or (by assumption) (by assumption)) | exact key _ (b_xor (by assumption) (by assumption) (by assumption))
     ·
      refine H.lf (f := Prod.fst) 0 (AV.i IntKind.u64 (wr IntKind.u64 (↑(BitVec.toNat (BitVec.ofInt 64 18446744073709551615 ^^^ BitVec.ofInt 64 (uI x))) : Int))) (by kernel_rfl) ?_
      first | exact key _ (b_nan (by assumption)) | exact key _ (b_or (by assumption) (by assumption)) | exact key _ (b_xor (by assumption) (by assumption) (by assumption))
    ·
     refine H.lf (f := Prod.fst) 0 (AV.i IntKind.u64 18446744073709551615) (by kernel_rfl) ?_
     first | exact key _ (b_nan (by assumption)) | exact key _ (b_or (by assumption) (by assumption)) | exact key _ (b_xor (by assumption) (by assumption) (by assumption))
  · exact h.elim
theorem c21 : Ctr Sx 21 g21 := by
  intro args Q h
  unfold g21 at h
  split at h
  · rename_i x
    obtain ⟨hx, h⟩ := br_ok h
    have hx := of_decide_eq_true hx
    have key : ∀ v : Int, v = bitsO x → PQ Q (.i .u64 v) := fun v e => e ▸ ⟨rfl, h⟩
    refine ⟨rfl, ?_⟩
    refine H.sb 1 (fun b => (!b)) (Ieee.Format.order { exponentBits := 11, fractionBits := 52 } x x == some Ordering.eq) (by kernel_rfl) (fun h1 => ?_) (fun h1 => ?_)
    ·
     refine H.se 2 (fun b => b) (Int.fdiv (uI x) 9223372036854775808) (1) (by kernel_rfl) (fun h2 => ?_) (fun h2 => ?_)
     ·
      refine H.lf (f := Prod.fst) 0 (AV.i IntKind.u64 (wr IntKind.u64 (↑(BitVec.toNat (BitVec.ofInt 64 18446744073709551615 ^^^ BitVec.ofInt 64 (uI x))) : Int))) (by kernel_rfl) ?_
      first | exact key _ (b_nan (by assumption)) | exact key _ (b_xor2 (by assumption) (by assumption) (by assumption)) | exact key _ (b_add (by assumption) (by assumption) (by assumption))
     ·
      refine H.lf (f := Prod.fst) 1 (AV.i IntKind.u64 (wr IntKind.u64 (uI x + 9223372036854775808))) (by kernel_rfl) ?_
      first | exact key _ (b_nan (by assumption)) | exact key _ (b_xor2 (by assumption) (by assumption) (by assumption)) | exact key _ (b_add (by assumption) (by assumption) (by assumption))
    ·
     refine H.lf (f := Prod.fst) 0 (AV.i IntKind.u64 18446744073709551615) (by kernel_rfl) ?_
     first | exact key _ (b_nan (by assumption)) | exact key _ (b_xor2 (by assumption) (by assumption) (by assumption)) | exact key _ (b_add (by assumption) (by assumption) (by assumption))
  · exact h.elim
theorem c17 : Ctr S1 17 g17 := by
  intro args Q h
  unfold g17 at h
  split at h
  · rename_i x y
    obtain ⟨hx, h⟩ := br_ok h
    have hx := of_decide_eq_true hx
    obtain ⟨hy, h⟩ := br_ok h
    have hy := of_decide_eq_true hy
    have key : ∀ v : Int, v = cmpO x y → PQ Q (iv v) := fun v e => e ▸ ⟨rfl, h⟩
    refine ⟨rfl, ?_⟩
    refine H.kd 1 (fun b => b) (x < 18446744073709551616) (by (first | assumption | omega | decide | rfl)) (by kernel_rfl) ?_
    refine H.kd 0 (fun b => b) (y < 18446744073709551616) (by (first | assumption | omega | decide | rfl)) (by kernel_rfl) ?_
    refine H.sd 1 (fun b => b) (bitsO x < bitsO y) (by kernel_rfl) (fun h1 => ?_) (fun h1 => ?_)
    ·
     refine H.lf (f := Prod.fst) 0 (AV.i IntKind.i64 (-1)) (by kernel_rfl) ?_
     first | exact key _ (c_lt (by assumption)) | exact key _ (c_gt (by assumption) (by assumption)) | exact key _ (c_eq (by assumption) (by assumption))
    ·
     refine H.sd 1 (fun b => b) (bitsO x > bitsO y) (by kernel_rfl) (fun h2 => ?_) (fun h2 => ?_)
     ·
      refine H.lf (f := Prod.fst) 0 (AV.i IntKind.i64 1) (by kernel_rfl) ?_
      first | exact key _ (c_lt (by assumption)) | exact key _ (c_gt (by assumption) (by assumption)) | exact key _ (c_eq (by assumption) (by assumption))
     ·
      refine H.lf (f := Prod.fst) 0 (AV.i IntKind.i64 0) (by kernel_rfl) ?_
      first | exact key _ (c_lt (by assumption)) | exact key _ (c_gt (by assumption) (by assumption)) | exact key _ (c_eq (by assumption) (by assumption))
  · exact h.elim
theorem c18 : Ctr S1 18 g18 := by
  intro args Q h
  unfold g18 at h
  split at h
  · rename_i x y
    obtain ⟨hx, h⟩ := br_ok h
    have hx := of_decide_eq_true hx
    obtain ⟨hy, h⟩ := br_ok h
    have hy := of_decide_eq_true hy
    have key : ∀ v : Int, v = cmpO x y → PQ Q (iv v) := fun v e => e ▸ ⟨rfl, h⟩
    refine ⟨rfl, ?_⟩
    refine H.kd 1 (fun b => b) (x < 18446744073709551616) (by (first | assumption | omega | decide | rfl)) (by kernel_rfl) ?_
    refine H.kd 0 (fun b => b) (y < 18446744073709551616) (by (first | assumption | omega | decide | rfl)) (by kernel_rfl) ?_
    refine H.sd 1 (fun b => b) (bitsO x < bitsO y) (by kernel_rfl) (fun h1 => ?_) (fun h1 => ?_)
    ·
     refine H.lf (f := Prod.fst) 0 (AV.i IntKind.i64 (-1)) (by kernel_rfl) ?_
     first | exact key _ (c_lt (by assumption)) | exact key _ (c_gt (by assumption) (by assumption)) | exact key _ (c_eq (by assumption) (by assumption))
    ·
     refine H.sd 1 (fun b => b) (bitsO x > bitsO y) (by kernel_rfl) (fun h2 => ?_) (fun h2 => ?_)
     ·
      refine H.lf (f := Prod.fst) 0 (AV.i IntKind.i64 1) (by kernel_rfl) ?_
      first | exact key _ (c_lt (by assumption)) | exact key _ (c_gt (by assumption) (by assumption)) | exact key _ (c_eq (by assumption) (by assumption))
     ·
      refine H.lf (f := Prod.fst) 0 (AV.i IntKind.i64 0) (by kernel_rfl) ?_
      first | exact key _ (c_lt (by assumption)) | exact key _ (c_gt (by assumption) (by assumption)) | exact key _ (c_eq (by assumption) (by assumption))
  · exact h.elim
theorem c19 : Ctr S2 19 g19 := by
  intro args Q h
  unfold g19 at h
  split at h
  · rename_i x y
    obtain ⟨hx, h⟩ := br_ok h
    have hx := of_decide_eq_true hx
    obtain ⟨hy, h⟩ := br_ok h
    have hy := of_decide_eq_true hy
    have key : ∀ v : Bool, v = (cmpO x y == 0) → PQ Q (.b v) := fun v e => e ▸ ⟨rfl, h⟩
    refine ⟨rfl, ?_⟩
    refine H.kd 1 (fun b => b) (x < 18446744073709551616) (by (first | assumption | omega | decide | rfl)) (by kernel_rfl) ?_
    refine H.kd 0 (fun b => b) (y < 18446744073709551616) (by (first | assumption | omega | decide | rfl)) (by kernel_rfl) ?_
    refine H.lf (f := Prod.fst) 1 (AV.b (cmpO x y == 0)) (by kernel_rfl) ?_
    first | exact key _ rfl
  · exact h.elim
theorem c33 : Ctr S2 33 g33 := by
  intro args Q h
  unfold g33 at h
  split at h
  · rename_i x a b
    obtain ⟨hx, h⟩ := br_ok h
    have hx := of_decide_eq_true hx
    obtain ⟨ha, h⟩ := br_ok h
    have ha := of_decide_eq_true ha
    obtain ⟨hb, h⟩ := br_ok h
    have hb := of_decide_eq_true hb
    have key : ∀ v : Nat, v = clampO x a b → PQ Q (fv v) := fun v e => e ▸ ⟨rfl, h⟩
    refine ⟨rfl, ?_⟩
    refine H.sb 1 (fun b => ((!b) == false)) (Ieee.Format.order { exponentBits := 11, fractionBits := 52 } x x == some Ordering.eq) (by kernel_rfl) (fun h1 => ?_) (fun h1 => ?_)
    ·
     refine H.sb 3 (fun b => ((!b) == false)) (Ieee.Format.order { exponentBits := 11, fractionBits := 52 } a a == some Ordering.eq) (by kernel_rfl) (fun h2 => ?_) (fun h2 => ?_)
     ·
      refine H.sb 3 (fun b => (!b)) (Ieee.Format.order { exponentBits := 11, fractionBits := 52 } b b == some Ordering.eq) (by kernel_rfl) (fun h3 => ?_) (fun h3 => ?_)
      ·
       refine H.kd 0 (fun b => b) (x < 18446744073709551616) (by (first | assumption | omega | decide | rfl)) (by kernel_rfl) ?_
       refine H.kd 0 (fun b => b) (a < 18446744073709551616) (by (first | assumption | omega | decide | rfl)) (by kernel_rfl) ?_
       refine H.sd 1 (fun b => (b == false)) (cmpO x a < 0) (by kernel_rfl) (fun h4 => ?_) (fun h4 => ?_)
       ·
        refine H.lf (f := Prod.fst) 5 (AV.v (Value.float FloatKind.f64 a)) (by kernel_rfl) ?_
        first | exact key _ (cl_nan (.inl (by assumption))) | exact key _ (cl_nan (.inr (.inl (by assumption)))) | exact key _ (cl_nan (.inr (.inr (by assumption)))) | exact key _ (cl_lo (by assumption) (by assumption) (by assumption)  (.inl (by assumption))) | exact key _ (cl_lo (by assumption) (by assumption) (by assumption)  (.inr (by assumption))) | exact key _ (cl_hi (by assumption) (by assumption) (by assumption)  (by assumption) (by assumption) (by assumption) ) | exact key _ (cl_id (by assumption) (by assumption) (by assumption)  (by assumption) (by assumption) (by assumption) )
       ·
        refine H.kd 2 (fun b => b) (a < 18446744073709551616) (by (first | assumption | omega | decide | rfl)) (by kernel_rfl) ?_
        refine H.kd 0 (fun b => b) (b < 18446744073709551616) (by (first | assumption | omega | decide | rfl)) (by kernel_rfl) ?_
        refine H.sd 3 (fun b => b) (cmpO a b > 0) (by kernel_rfl) (fun h5 => ?_) (fun h5 => ?_)
        ·
         refine H.lf (f := Prod.fst) 0 (AV.v (Value.float FloatKind.f64 a)) (by kernel_rfl) ?_
         first | exact key _ (cl_nan (.inl (by assumption))) | exact key _ (cl_nan (.inr (.inl (by assumption)))) | exact key _ (cl_nan (.inr (.inr (by assumption)))) | exact key _ (cl_lo (by assumption) (by assumption) (by assumption)  (.inl (by assumption))) | exact key _ (cl_lo (by assumption) (by assumption) (by assumption)  (.inr (by assumption))) | exact key _ (cl_hi (by assumption) (by assumption) (by assumption)  (by assumption) (by assumption) (by assumption) ) | exact key _ (cl_id (by assumption) (by assumption) (by assumption)  (by assumption) (by assumption) (by assumption) )
        ·
         refine H.kd 0 (fun b => b) (x < 18446744073709551616) (by (first | assumption | omega | decide | rfl)) (by kernel_rfl) ?_
         refine H.kd 0 (fun b => b) (b < 18446744073709551616) (by (first | assumption | omega | decide | rfl)) (by kernel_rfl) ?_
         refine H.sd 1 (fun b => b) (cmpO x b > 0) (by kernel_rfl) (fun h6 => ?_) (fun h6 => ?_)
         ·
          refine H.lf (f := Prod.fst) 0 (AV.v (Value.float FloatKind.f64 b)) (by kernel_rfl) ?_
          first | exact key _ (cl_nan (.inl (by assumption))) | exact key _ (cl_nan (.inr (.inl (by assumption)))) | exact key _ (cl_nan (.inr (.inr (by assumption)))) | exact key _ (cl_lo (by assumption) (by assumption) (by assumption)  (.inl (by assumption))) | exact key _ (cl_lo (by assumption) (by assumption) (by assumption)  (.inr (by assumption))) | exact key _ (cl_hi (by assumption) (by assumption) (by assumption)  (by assumption) (by assumption) (by assumption) ) | exact key _ (cl_id (by assumption) (by assumption) (by assumption)  (by assumption) (by assumption) (by assumption) )
         ·
          refine H.lf (f := Prod.fst) 0 (AV.v (Value.float FloatKind.f64 x)) (by kernel_rfl) ?_
          first | exact key _ (cl_nan (.inl (by assumption))) | exact key _ (cl_nan (.inr (.inl (by assumption)))) | exact key _ (cl_nan (.inr (.inr (by assumption)))) | exact key _ (cl_lo (by assumption) (by assumption) (by assumption)  (.inl (by assumption))) | exact key _ (cl_lo (by assumption) (by assumption) (by assumption)  (.inr (by assumption))) | exact key _ (cl_hi (by assumption) (by assumption) (by assumption)  (by assumption) (by assumption) (by assumption) ) | exact key _ (cl_id (by assumption) (by assumption) (by assumption)  (by assumption) (by assumption) (by assumption) )
      ·
       refine H.lf (f := Prod.fst) 1 (AV.v (Value.float FloatKind.f64 (Int.toNat 9221120237041090561))) (by kernel_rfl) ?_
       first | exact key _ (cl_nan (.inl (by assumption))) | exact key _ (cl_nan (.inr (.inl (by assumption)))) | exact key _ (cl_nan (.inr (.inr (by assumption)))) | exact key _ (cl_lo (by assumption) (by assumption) (by assumption)  (.inl (by assumption))) | exact key _ (cl_lo (by assumption) (by assumption) (by assumption)  (.inr (by assumption))) | exact key _ (cl_hi (by assumption) (by assumption) (by assumption)  (by assumption) (by assumption) (by assumption) ) | exact key _ (cl_id (by assumption) (by assumption) (by assumption)  (by assumption) (by assumption) (by assumption) )
     ·
      refine H.lf (f := Prod.fst) 5 (AV.v (Value.float FloatKind.f64 (Int.toNat 9221120237041090561))) (by kernel_rfl) ?_
      first | exact key _ (cl_nan (.inl (by assumption))) | exact key _ (cl_nan (.inr (.inl (by assumption)))) | exact key _ (cl_nan (.inr (.inr (by assumption)))) | exact key _ (cl_lo (by assumption) (by assumption) (by assumption)  (.inl (by assumption))) | exact key _ (cl_lo (by assumption) (by assumption) (by assumption)  (.inr (by assumption))) | exact key _ (cl_hi (by assumption) (by assumption) (by assumption)  (by assumption) (by assumption) (by assumption) ) | exact key _ (cl_id (by assumption) (by assumption) (by assumption)  (by assumption) (by assumption) (by assumption) )
    ·
     refine H.lf (f := Prod.fst) 9 (AV.v (Value.float FloatKind.f64 (Int.toNat 9221120237041090561))) (by kernel_rfl) ?_
     first | exact key _ (cl_nan (.inl (by assumption))) | exact key _ (cl_nan (.inr (.inl (by assumption)))) | exact key _ (cl_nan (.inr (.inr (by assumption)))) | exact key _ (cl_lo (by assumption) (by assumption) (by assumption)  (.inl (by assumption))) | exact key _ (cl_lo (by assumption) (by assumption) (by assumption)  (.inr (by assumption))) | exact key _ (cl_hi (by assumption) (by assumption) (by assumption)  (by assumption) (by assumption) (by assumption) ) | exact key _ (cl_id (by assumption) (by assumption) (by assumption)  (by assumption) (by assumption) (by assumption) )
  · exact h.elim
theorem c34 : Ctr S2 34 g34 := by
  intro args Q h
  unfold g34 at h
  split at h
  · rename_i x a b
    obtain ⟨hx, h⟩ := br_ok h
    have hx := of_decide_eq_true hx
    obtain ⟨ha, h⟩ := br_ok h
    have ha := of_decide_eq_true ha
    obtain ⟨hb, h⟩ := br_ok h
    have hb := of_decide_eq_true hb
    have key : ∀ v : Nat, v = clampO x a b → PQ Q (fv v) := fun v e => e ▸ ⟨rfl, h⟩
    refine ⟨rfl, ?_⟩
    refine H.sb 1 (fun b => ((!b) == false)) (Ieee.Format.order { exponentBits := 11, fractionBits := 52 } x x == some Ordering.eq) (by kernel_rfl) (fun h1 => ?_) (fun h1 => ?_)
    ·
     refine H.sb 3 (fun b => ((!b) == false)) (Ieee.Format.order { exponentBits := 11, fractionBits := 52 } a a == some Ordering.eq) (by kernel_rfl) (fun h2 => ?_) (fun h2 => ?_)
     ·
      refine H.sb 3 (fun b => (!b)) (Ieee.Format.order { exponentBits := 11, fractionBits := 52 } b b == some Ordering.eq) (by kernel_rfl) (fun h3 => ?_) (fun h3 => ?_)
      ·
       refine H.kd 0 (fun b => b) (x < 18446744073709551616) (by (first | assumption | omega | decide | rfl)) (by kernel_rfl) ?_
       refine H.kd 0 (fun b => b) (a < 18446744073709551616) (by (first | assumption | omega | decide | rfl)) (by kernel_rfl) ?_
       refine H.sd 1 (fun b => (b == false)) (cmpO x a < 0) (by kernel_rfl) (fun h4 => ?_) (fun h4 => ?_)
       ·
        refine H.lf (f := Prod.fst) 5 (AV.v (Value.float FloatKind.f64 a)) (by kernel_rfl) ?_
        first | exact key _ (cl_nan (.inl (by assumption))) | exact key _ (cl_nan (.inr (.inl (by assumption)))) | exact key _ (cl_nan (.inr (.inr (by assumption)))) | exact key _ (cl_lo (by assumption) (by assumption) (by assumption)  (.inl (by assumption))) | exact key _ (cl_lo (by assumption) (by assumption) (by assumption)  (.inr (by assumption))) | exact key _ (cl_hi (by assumption) (by assumption) (by assumption)  (by assumption) (by assumption) (by assumption) ) | exact key _ (cl_id (by assumption) (by assumption) (by assumption)  (by assumption) (by assumption) (by assumption) )
       ·
        refine H.kd 2 (fun b => b) (a < 18446744073709551616) (by (first | assumption | omega | decide | rfl)) (by kernel_rfl) ?_
        refine H.kd 0 (fun b => b) (b < 18446744073709551616) (by (first | assumption | omega | decide | rfl)) (by kernel_rfl) ?_
        refine H.sd 3 (fun b => b) (cmpO a b > 0) (by kernel_rfl) (fun h5 => ?_) (fun h5 => ?_)
        ·
         refine H.lf (f := Prod.fst) 0 (AV.v (Value.float FloatKind.f64 a)) (by kernel_rfl) ?_
         first | exact key _ (cl_nan (.inl (by assumption))) | exact key _ (cl_nan (.inr (.inl (by assumption)))) | exact key _ (cl_nan (.inr (.inr (by assumption)))) | exact key _ (cl_lo (by assumption) (by assumption) (by assumption)  (.inl (by assumption))) | exact key _ (cl_lo (by assumption) (by assumption) (by assumption)  (.inr (by assumption))) | exact key _ (cl_hi (by assumption) (by assumption) (by assumption)  (by assumption) (by assumption) (by assumption) ) | exact key _ (cl_id (by assumption) (by assumption) (by assumption)  (by assumption) (by assumption) (by assumption) )
        ·
         refine H.kd 0 (fun b => b) (x < 18446744073709551616) (by (first | assumption | omega | decide | rfl)) (by kernel_rfl) ?_
         refine H.kd 0 (fun b => b) (b < 18446744073709551616) (by (first | assumption | omega | decide | rfl)) (by kernel_rfl) ?_
         refine H.sd 1 (fun b => b) (cmpO x b > 0) (by kernel_rfl) (fun h6 => ?_) (fun h6 => ?_)
         ·
          refine H.lf (f := Prod.fst) 0 (AV.v (Value.float FloatKind.f64 b)) (by kernel_rfl) ?_
          first | exact key _ (cl_nan (.inl (by assumption))) | exact key _ (cl_nan (.inr (.inl (by assumption)))) | exact key _ (cl_nan (.inr (.inr (by assumption)))) | exact key _ (cl_lo (by assumption) (by assumption) (by assumption)  (.inl (by assumption))) | exact key _ (cl_lo (by assumption) (by assumption) (by assumption)  (.inr (by assumption))) | exact key _ (cl_hi (by assumption) (by assumption) (by assumption)  (by assumption) (by assumption) (by assumption) ) | exact key _ (cl_id (by assumption) (by assumption) (by assumption)  (by assumption) (by assumption) (by assumption) )
         ·
          refine H.lf (f := Prod.fst) 0 (AV.v (Value.float FloatKind.f64 x)) (by kernel_rfl) ?_
          first | exact key _ (cl_nan (.inl (by assumption))) | exact key _ (cl_nan (.inr (.inl (by assumption)))) | exact key _ (cl_nan (.inr (.inr (by assumption)))) | exact key _ (cl_lo (by assumption) (by assumption) (by assumption)  (.inl (by assumption))) | exact key _ (cl_lo (by assumption) (by assumption) (by assumption)  (.inr (by assumption))) | exact key _ (cl_hi (by assumption) (by assumption) (by assumption)  (by assumption) (by assumption) (by assumption) ) | exact key _ (cl_id (by assumption) (by assumption) (by assumption)  (by assumption) (by assumption) (by assumption) )
      ·
       refine H.lf (f := Prod.fst) 1 (AV.v (Value.float FloatKind.f64 (Int.toNat 9221120237041090561))) (by kernel_rfl) ?_
       first | exact key _ (cl_nan (.inl (by assumption))) | exact key _ (cl_nan (.inr (.inl (by assumption)))) | exact key _ (cl_nan (.inr (.inr (by assumption)))) | exact key _ (cl_lo (by assumption) (by assumption) (by assumption)  (.inl (by assumption))) | exact key _ (cl_lo (by assumption) (by assumption) (by assumption)  (.inr (by assumption))) | exact key _ (cl_hi (by assumption) (by assumption) (by assumption)  (by assumption) (by assumption) (by assumption) ) | exact key _ (cl_id (by assumption) (by assumption) (by assumption)  (by assumption) (by assumption) (by assumption) )
     ·
      refine H.lf (f := Prod.fst) 5 (AV.v (Value.float FloatKind.f64 (Int.toNat 9221120237041090561))) (by kernel_rfl) ?_
      first | exact key _ (cl_nan (.inl (by assumption))) | exact key _ (cl_nan (.inr (.inl (by assumption)))) | exact key _ (cl_nan (.inr (.inr (by assumption)))) | exact key _ (cl_lo (by assumption) (by assumption) (by assumption)  (.inl (by assumption))) | exact key _ (cl_lo (by assumption) (by assumption) (by assumption)  (.inr (by assumption))) | exact key _ (cl_hi (by assumption) (by assumption) (by assumption)  (by assumption) (by assumption) (by assumption) ) | exact key _ (cl_id (by assumption) (by assumption) (by assumption)  (by assumption) (by assumption) (by assumption) )
    ·
     refine H.lf (f := Prod.fst) 9 (AV.v (Value.float FloatKind.f64 (Int.toNat 9221120237041090561))) (by kernel_rfl) ?_
     first | exact key _ (cl_nan (.inl (by assumption))) | exact key _ (cl_nan (.inr (.inl (by assumption)))) | exact key _ (cl_nan (.inr (.inr (by assumption)))) | exact key _ (cl_lo (by assumption) (by assumption) (by assumption)  (.inl (by assumption))) | exact key _ (cl_lo (by assumption) (by assumption) (by assumption)  (.inr (by assumption))) | exact key _ (cl_hi (by assumption) (by assumption) (by assumption)  (by assumption) (by assumption) (by assumption) ) | exact key _ (cl_id (by assumption) (by assumption) (by assumption)  (by assumption) (by assumption) (by assumption) )
  · exact h.elim
theorem c22 : Ctr Sx 22 g22 := by
  intro args Q h
  unfold g22 at h
  split at h
  · rename_i x y
    obtain ⟨e, h⟩ := br_ok h
    have e := of_decide_eq_true e
    have key : ∀ v : Bool, v = true → PQ Q (.b v) := fun v e => e ▸ ⟨rfl, h⟩
    refine ⟨rfl, ?_⟩
    refine H.sb 1 (fun b => ((!b) == false)) (Ieee.Format.order { exponentBits := 11, fractionBits := 52 } x x == some Ordering.eq) (by kernel_rfl) (fun h1 => ?_) (fun h1 => ?_)
    ·
     refine H.sb 3 (fun b => (!b)) (Ieee.Format.order { exponentBits := 11, fractionBits := 52 } y y == some Ordering.eq) (by kernel_rfl) (fun h2 => ?_) (fun h2 => ?_)
     ·
      refine H.lf (f := Prod.fst) 1 (AV.b (uI x == uI y)) (by kernel_rfl) ?_
      subst e; first | exact key _ (eqf_same x) | exact key _ (eqf_abs h1 h2) | exact key _ (eqf_nan (by assumption))
     ·
      refine H.kb 0 (fun b => ((!b) == true)) (b := (Ieee.Format.order { exponentBits := 11, fractionBits := 52 } x x == some Ordering.eq)) (d := true) (by (first | assumption | omega | decide | rfl | (subst e; rfl))) (by kernel_rfl) ?_
      refine H.lf (f := Prod.fst) 3 (AV.b false) (by kernel_rfl) ?_
      subst e; first | exact key _ (eqf_same x) | exact key _ (eqf_abs h1 h2) | exact key _ (eqf_nan (by assumption))
    ·
     refine H.kb 4 (fun b => ((!b) == true)) (b := (Ieee.Format.order { exponentBits := 11, fractionBits := 52 } x x == some Ordering.eq)) (d := false) (by (first | assumption | omega | decide | rfl | (subst e; rfl))) (by kernel_rfl) ?_
     refine H.lf (f := Prod.fst) 3 (AV.b (Ieee.Format.order { exponentBits := 11, fractionBits := 52 } y y != some Ordering.eq)) (by kernel_rfl) ?_
     subst e; first | exact key _ (eqf_same x) | exact key _ (eqf_abs h1 h2) | exact key _ (eqf_nan (by assumption))
  · exact h.elim
theorem s1 (N : NB) : SOk Tryd.prog N S1 := (sctr (sx N) (sctr (sx N) (sx N) c21) c20)
theorem s2 (N : NB) : SOk Tryd.prog N S2 := (sctr (s1 N) (sctr (s1 N) (s1 N) c18) c17)
theorem s3 (N : NB) : SOk Tryd.prog N S3 := (sctr (s2 N) (sctr (s2 N) (sctr (s2 N) (s2 N) c19) c34) c33)
theorem s4 (N : NB) : SOk Tryd.prog N S4 := (s3 N)
theorem s5 (N : NB) : SOk Tryd.prog N S5 := (sctr (sx N) (s4 N) c22)
theorem s6 (N : NB) : SOk Tryd.prog N S6 := (s5 N)
theorem s8 (N : NB) : SOk Tryd.prog N S8 := (s6 N)
end Go.Proofs.TabR
