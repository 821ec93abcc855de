/- Floats as words: what comparing, clamping and noting them gives, in plain numbers; each lemma names its conditions. -/
import Derived.Test.YtiokhipgpfeoeaaBaseH
set_option linter.all false
set_option linter.deprecated false
set_option maxRecDepth 1000000
set_option maxHeartbeats 4000000
namespace Go.Proofs.TabH
open Go Go.Eng
noncomputable def g16 : List AV → T AV
  | [.i .u64 n] => .ret (.v (.float .f64 n.toNat))
  | _ => .fail
noncomputable def g26 : List AV → T AV
  | [.v (.float .f64 n)] => .ret (.i .u64 (uI n))
  | _ => .fail
noncomputable def Sx : Sp := fun n => bif2 (Nat.beq n 16) (some (treeS g16)) (bif2 (Nat.beq n 26) (some (treeS g26)) none)
noncomputable def g67 : List AV → T AV
  | [.v (.float .f64 x)] => .br (decide (x < 18446744073709551616)) (.ret (.i .u64 (bitsO x))) .fail
  | _ => .fail
noncomputable def g64 : List AV → T AV
  | [.v (.float .f64 x)] => .br (decide (x < 18446744073709551616)) (.ret (.i .u64 (bitsO x))) .fail
  | _ => .fail
noncomputable def g65 : List AV → T AV
  | [.v (.float .f64 x), .v (.float .f64 y)] => .br (decide (x < 18446744073709551616)) (.br (decide (y < 18446744073709551616)) (.ret (iv (cmpO x y))) .fail) .fail
  | _ => .fail
noncomputable def g49 : List AV → T AV
  | [.v (.float .f64 x), .v (.float .f64 y)] => .br (decide (x < 18446744073709551616)) (.br (decide (y < 18446744073709551616)) (.ret (iv (cmpO x y))) .fail) .fail
  | _ => .fail
noncomputable def g61 : List AV → T AV
  | [.v (.float .f64 x), .v (.float .f64 y)] => .br (decide (x < 18446744073709551616)) (.br (decide (y < 18446744073709551616)) (.ret (.b (cmpO x y == 0))) .fail) .fail
  | _ => .fail
noncomputable def g62 : List AV → T AV
  | [.v (.float .f64 x), .v (.float .f64 a), .v (.float .f64 b)] => .br (decide (x < 18446744073709551616)) (.br (decide (a < 18446744073709551616)) (.br (decide (b < 18446744073709551616)) (.ret (fv (clampO x a b))) .fail) .fail) .fail
  | _ => .fail
noncomputable def g50 : List AV → T AV
  | [.v (.float .f64 x), .v (.float .f64 a), .v (.float .f64 b)] => .br (decide (x < 18446744073709551616)) (.br (decide (a < 18446744073709551616)) (.br (decide (b < 18446744073709551616)) (.ret (fv (clampO x a b))) .fail) .fail) .fail
  | _ => .fail
noncomputable def g63 : List AV → T AV
  | [.v (.float .f64 x)] => .br (decide (x < 18446744073709551616)) (.ret (fv (clampO x 0 f1W))) .fail
  | _ => .fail
noncomputable def g51 : List AV → T AV
  | [.v (.float .f64 x), .v (.float .f64 y)] => .br (decide (x = y)) (.ret (.b true)) .fail
  | _ => .fail
noncomputable def g46 : List AV → T AV
  | [.agg [.v (.float .f64 s), .i .i64 c]] => .br (decide (s < 18446744073709551616)) (.ret (.b (healthO s c))) .fail
  | _ => .fail
noncomputable def g20 : List AV → T AV
  | [.agg [.v (.float .f64 s), .i .i64 c]] => .br (decide (s < 18446744073709551616)) (.ret (.b (healthO s c))) .fail
  | _ => .fail
noncomputable def g47 : List AV → T AV
  | [.agg [.v (.float .f64 s), .i .i64 c], .v (.float .f64 x), .v (.float .f64 w)] => .br (decide (s < 18446744073709551616)) (.br (decide (x < 18446744073709551616)) (.br (decide (w < 18446744073709551616)) (.br (healthO s c) (.br (weightO w) (.ret (.agg [fv (noteO s c x w), iv (noteC c x)])) .fail) .fail) .fail) .fail) .fail
  | _ => .fail
noncomputable def g23 : List AV → T AV
  | [.agg [.v (.float .f64 s), .i .i64 c], .v (.float .f64 x), .v (.float .f64 w)] => .br (decide (s < 18446744073709551616)) (.br (decide (x < 18446744073709551616)) (.br (decide (w < 18446744073709551616)) (.br (healthO s c) (.br (weightO w) (.ret (.agg [fv (noteO s c x w), iv (noteC c x)])) .fail) .fail) .fail) .fail) .fail
  | _ => .fail
noncomputable def g52 : List AV → T AV
  | [.agg [.v (.float .f64 s), .i .i64 c], .v (.float .f64 f)] => .ret (.b (goodO s c f))
  | _ => .fail
noncomputable def g31 : List AV → T AV
  | [.agg [.v (.float .f64 s), .i .i64 c], .v (.float .f64 f)] => .ret (.b (goodO s c f))
  | _ => .fail
noncomputable def g53 : List AV → T AV
  | [.agg [.i .i64 st, .i .i64 q, .i .i64 u, .v (.float .f64 s), .i .i64 c]] => .br (decide (s < 18446744073709551616)) (.ret (.b (brkO st q u s c))) .fail
  | _ => .fail
noncomputable def g42 : List AV → T AV
  | [.agg [.i .i64 st, .i .i64 q, .i .i64 u, .v (.float .f64 s), .i .i64 c]] => .br (decide (s < 18446744073709551616)) (.ret (.b (brkO st q u s c))) .fail
  | _ => .fail
noncomputable def S1 : Sp := fun n => bif2 (Nat.beq n 67) (some (treeS g67)) (bif2 (Nat.beq n 64) (some (treeS g64)) (Sx n))
noncomputable def S2 : Sp := fun n => bif2 (Nat.beq n 65) (some (treeS g65)) (bif2 (Nat.beq n 49) (some (treeS g49)) (S1 n))
noncomputable def S3 : Sp := fun n => bif2 (Nat.beq n 62) (some (treeS g62)) (bif2 (Nat.beq n 50) (some (treeS g50)) (bif2 (Nat.beq n 61) (some (treeS g61)) (S2 n)))
noncomputable def S4 : Sp := fun n => bif2 (Nat.beq n 63) (some (treeS g63)) (S3 n)
noncomputable def S5 : Sp := fun n => bif2 (Nat.beq n 46) (some (treeS g46)) (bif2 (Nat.beq n 20) (some (treeS g20)) (bif2 (Nat.beq n 51) (some (treeS g51)) (S4 n)))
noncomputable def S6 : Sp := fun n => bif2 (Nat.beq n 47) (some (treeS g47)) (bif2 (Nat.beq n 23) (some (treeS g23)) (bif2 (Nat.beq n 52) (some (treeS g52)) (bif2 (Nat.beq n 31) (some (treeS g31)) (S5 n))))
noncomputable def S8 : Sp := fun n => bif2 (Nat.beq n 53) (some (treeS g53)) (bif2 (Nat.beq n 42) (some (treeS g42)) (S6 n))

theorem x16 (N : Nat) (R : Sp) (hR : SOk Try.prog N R) : SOk Try.prog N (fun f => bif2 (Nat.beq f 16) (some (treeS g16)) (R f)) := by
  refine sOk_ext hR (fn := Try.f16) (e := Extern.MathFloatBits.float64frombits) Try.func16 (by kernel_rfl) (by kernel_rfl) (by kernel_rfl) (by kernel_rfl) ?_
  intro args Q h φ zs hr w
  unfold g16 at h
  split at h
  · cases hr with | cons h1 h2 => cases h2; cases h1; exact ⟨_, _, rfl, h, .v _⟩
  · exact h.elim
theorem x26 (N : Nat) (R : Sp) (hR : SOk Try.prog N R) : SOk Try.prog N (fun f => bif2 (Nat.beq f 26) (some (treeS g26)) (R f)) := by
  refine sOk_ext hR (fn := Try.f26) (e := Extern.MathFloatBits.float64bits) Try.func26 (by kernel_rfl) (by kernel_rfl) (by kernel_rfl) (by kernel_rfl) ?_
  intro args Q h φ zs hr w
  unfold g26 at h
  split at h
  · rename_i n
    rw [uI_eq] at h
    cases hr with | cons h1 h2 => cases h2; cases h1; exact ⟨_, _, rfl, h, .i _ _⟩
  · exact h.elim
theorem sx (N : Nat) : SOk Try.prog N Sx := x16 N _ (x26 N _ (sn N))

theorem c67 : Ctr Sx 67 g67 := by
  intro args Q h
  unfold g67 at h
  split at h
  · rename_i x
    obtain ⟨hx, h⟩ := br_ok h
    have hx := of_decide_eq_true hx
    have key : ∀ v : Int, v = bitsO x → PQ Q (.i .u64 v) := fun v e => e ▸ ⟨rfl, h⟩
    refine ⟨rfl, ?_⟩
    refine H.sb 1 (fun b => (!b)) (Ieee.Format.order { exponentBits := 11, fractionBits := 52 } x x == some Ordering.eq) (by kernel_rfl) (fun h1 => ?_) (fun h1 => ?_)
    ·
     refine H.sd 1 (fun b => b) (uI x < 9223372036854775808) (by kernel_rfl) (fun h2 => ?_) (fun h2 => ?_)
     ·
      refine H.lf (f := Prod.fst) 1 (AV.i IntKind.u64 (wr IntKind.u64 (↑(BitVec.toNat (BitVec.ofInt 64 (uI x) ||| BitVec.ofInt 64 9223372036854775808)) : Int))) (by kernel_rfl) ?_
      first | exact key _ (b_nan (by assumption)) | exact key _ (b_or (by assumption) (by assumption)) | exact key _ (b_xor (by assumption) (by assumption) (by assumption))
     ·
      refine H.lf (f := Prod.fst) 0 (AV.i IntKind.u64 (wr IntKind.u64 (↑(BitVec.toNat (BitVec.ofInt 64 18446744073709551615 ^^^ BitVec.ofInt 64 (uI x))) : Int))) (by kernel_rfl) ?_
      first | exact key _ (b_nan (by assumption)) | exact key _ (b_or (by assumption) (by assumption)) | exact key _ (b_xor (by assumption) (by assumption) (by assumption))
    ·
     refine H.lf (f := Prod.fst) 0 (AV.i IntKind.u64 18446744073709551615) (by kernel_rfl) ?_
     first | exact key _ (b_nan (by assumption)) | exact key _ (b_or (by assumption) (by assumption)) | exact key _ (b_xor (by assumption) (by assumption) (by assumption))
  · exact h.elim
theorem c64 : Ctr Sx 64 g64 := by
  intro args Q h
  unfold g64 at h
  split at h
  · rename_i x
    obtain ⟨hx, h⟩ := br_ok h
    have hx := of_decide_eq_true hx
    have key : ∀ v : Int, v = bitsO x → PQ Q (.i .u64 v) := fun v e => e ▸ ⟨rfl, h⟩
    refine ⟨rfl, ?_⟩
    refine H.sb 1 (fun b => (!b)) (Ieee.Format.order { exponentBits := 11, fractionBits := 52 } x x == some Ordering.eq) (by kernel_rfl) (fun h1 => ?_) (fun h1 => ?_)
    ·
     refine H.se 2 (fun b => b) (Int.fdiv (uI x) 9223372036854775808) (1) (by kernel_rfl) (fun h2 => ?_) (fun h2 => ?_)
     ·
      refine H.lf (f := Prod.fst) 0 (AV.i IntKind.u64 (wr IntKind.u64 (↑(BitVec.toNat (BitVec.ofInt 64 18446744073709551615 ^^^ BitVec.ofInt 64 (uI x))) : Int))) (by kernel_rfl) ?_
      first | exact key _ (b_nan (by assumption)) | exact key _ (b_xor2 (by assumption) (by assumption) (by assumption)) | exact key _ (b_add (by assumption) (by assumption) (by assumption))
     ·
      refine H.lf (f := Prod.fst) 1 (AV.i IntKind.u64 (wr IntKind.u64 (uI x + 9223372036854775808))) (by kernel_rfl) ?_
      first | exact key _ (b_nan (by assumption)) | exact key _ (b_xor2 (by assumption) (by assumption) (by assumption)) | exact key _ (b_add (by assumption) (by assumption) (by assumption))
    ·
     refine H.lf (f := Prod.fst) 0 (AV.i IntKind.u64 18446744073709551615) (by kernel_rfl) ?_
     first | exact key _ (b_nan (by assumption)) | exact key _ (b_xor2 (by assumption) (by assumption) (by assumption)) | exact key _ (b_add (by assumption) (by assumption) (by assumption))
  · exact h.elim
theorem c65 : Ctr S1 65 g65 := by
  intro args Q h
  unfold g65 at h
  split at h
  · rename_i x y
    obtain ⟨hx, h⟩ := br_ok h
    have hx := of_decide_eq_true hx
    obtain ⟨hy, h⟩ := br_ok h
    have hy := of_decide_eq_true hy
    have key : ∀ v : Int, v = cmpO x y → PQ Q (iv v) := fun v e => e ▸ ⟨rfl, h⟩
    refine ⟨rfl, ?_⟩
    refine H.kd 1 (fun b => b) (x < 18446744073709551616) (by (first | assumption | omega | decide | rfl)) (by kernel_rfl) ?_
    refine H.kd 0 (fun b => b) (y < 18446744073709551616) (by (first | assumption | omega | decide | rfl)) (by kernel_rfl) ?_
    refine H.sd 1 (fun b => b) (bitsO x < bitsO y) (by kernel_rfl) (fun h1 => ?_) (fun h1 => ?_)
    ·
     refine H.lf (f := Prod.fst) 0 (AV.i IntKind.i64 (-1)) (by kernel_rfl) ?_
     first | exact key _ (c_lt (by assumption)) | exact key _ (c_gt (by assumption) (by assumption)) | exact key _ (c_eq (by assumption) (by assumption))
    ·
     refine H.sd 1 (fun b => b) (bitsO x > bitsO y) (by kernel_rfl) (fun h2 => ?_) (fun h2 => ?_)
     ·
      refine H.lf (f := Prod.fst) 0 (AV.i IntKind.i64 1) (by kernel_rfl) ?_
      first | exact key _ (c_lt (by assumption)) | exact key _ (c_gt (by assumption) (by assumption)) | exact key _ (c_eq (by assumption) (by assumption))
     ·
      refine H.lf (f := Prod.fst) 0 (AV.i IntKind.i64 0) (by kernel_rfl) ?_
      first | exact key _ (c_lt (by assumption)) | exact key _ (c_gt (by assumption) (by assumption)) | exact key _ (c_eq (by assumption) (by assumption))
  · exact h.elim
theorem c49 : Ctr S1 49 g49 := by
  intro args Q h
  unfold g49 at h
  split at h
  · rename_i x y
    obtain ⟨hx, h⟩ := br_ok h
    have hx := of_decide_eq_true hx
    obtain ⟨hy, h⟩ := br_ok h
    have hy := of_decide_eq_true hy
    have key : ∀ v : Int, v = cmpO x y → PQ Q (iv v) := fun v e => e ▸ ⟨rfl, h⟩
    refine ⟨rfl, ?_⟩
    refine H.kd 1 (fun b => b) (x < 18446744073709551616) (by (first | assumption | omega | decide | rfl)) (by kernel_rfl) ?_
    refine H.kd 0 (fun b => b) (y < 18446744073709551616) (by (first | assumption | omega | decide | rfl)) (by kernel_rfl) ?_
    refine H.sd 1 (fun b => b) (bitsO x < bitsO y) (by kernel_rfl) (fun h1 => ?_) (fun h1 => ?_)
    ·
     refine H.lf (f := Prod.fst) 0 (AV.i IntKind.i64 (-1)) (by kernel_rfl) ?_
     first | exact key _ (c_lt (by assumption)) | exact key _ (c_gt (by assumption) (by assumption)) | exact key _ (c_eq (by assumption) (by assumption))
    ·
     refine H.sd 1 (fun b => b) (bitsO x > bitsO y) (by kernel_rfl) (fun h2 => ?_) (fun h2 => ?_)
     ·
      refine H.lf (f := Prod.fst) 0 (AV.i IntKind.i64 1) (by kernel_rfl) ?_
      first | exact key _ (c_lt (by assumption)) | exact key _ (c_gt (by assumption) (by assumption)) | exact key _ (c_eq (by assumption) (by assumption))
     ·
      refine H.lf (f := Prod.fst) 0 (AV.i IntKind.i64 0) (by kernel_rfl) ?_
      first | exact key _ (c_lt (by assumption)) | exact key _ (c_gt (by assumption) (by assumption)) | exact key _ (c_eq (by assumption) (by assumption))
  · exact h.elim
theorem c61 : Ctr S2 61 g61 := by
  intro args Q h
  unfold g61 at h
  split at h
  · rename_i x y
    obtain ⟨hx, h⟩ := br_ok h
    have hx := of_decide_eq_true hx
    obtain ⟨hy, h⟩ := br_ok h
    have hy := of_decide_eq_true hy
    have key : ∀ v : Bool, v = (cmpO x y == 0) → PQ Q (.b v) := fun v e => e ▸ ⟨rfl, h⟩
    refine ⟨rfl, ?_⟩
    refine H.kd 1 (fun b => b) (x < 18446744073709551616) (by (first | assumption | omega | decide | rfl)) (by kernel_rfl) ?_
    refine H.kd 0 (fun b => b) (y < 18446744073709551616) (by (first | assumption | omega | decide | rfl)) (by kernel_rfl) ?_
    refine H.lf (f := Prod.fst) 1 (AV.b (cmpO x y == 0)) (by kernel_rfl) ?_
    first | exact key _ rfl
  · exact h.elim
theorem c62 : Ctr S2 62 g62 := by
  intro args Q h
  unfold g62 at h
  split at h
  · rename_i x a b
    obtain ⟨hx, h⟩ := br_ok h
    have hx := of_decide_eq_true hx
    obtain ⟨ha, h⟩ := br_ok h
    have ha := of_decide_eq_true ha
    obtain ⟨hb, h⟩ := br_ok h
    have hb := of_decide_eq_true hb
    have key : ∀ v : Nat, v = clampO x a b → PQ Q (fv v) := fun v e => e ▸ ⟨rfl, h⟩
    refine ⟨rfl, ?_⟩
    refine H.sb 1 (fun b => ((!b) == false)) (Ieee.Format.order { exponentBits := 11, fractionBits := 52 } x x == some Ordering.eq) (by kernel_rfl) (fun h1 => ?_) (fun h1 => ?_)
    ·
     refine H.sb 3 (fun b => ((!b) == false)) (Ieee.Format.order { exponentBits := 11, fractionBits := 52 } a a == some Ordering.eq) (by kernel_rfl) (fun h2 => ?_) (fun h2 => ?_)
     ·
      refine H.sb 3 (fun b => (!b)) (Ieee.Format.order { exponentBits := 11, fractionBits := 52 } b b == some Ordering.eq) (by kernel_rfl) (fun h3 => ?_) (fun h3 => ?_)
      ·
       refine H.kd 0 (fun b => b) (x < 18446744073709551616) (by (first | assumption | omega | decide | rfl)) (by kernel_rfl) ?_
       refine H.kd 0 (fun b => b) (a < 18446744073709551616) (by (first | assumption | omega | decide | rfl)) (by kernel_rfl) ?_
       refine H.sd 1 (fun b => (b == false)) (cmpO x a < 0) (by kernel_rfl) (fun h4 => ?_) (fun h4 => ?_)
       ·
        refine H.lf (f := Prod.fst) 5 (AV.v (Value.float FloatKind.f64 a)) (by kernel_rfl) ?_
        first | exact key _ (cl_nan (.inl (by assumption))) | exact key _ (cl_nan (.inr (.inl (by assumption)))) | exact key _ (cl_nan (.inr (.inr (by assumption)))) | exact key _ (cl_lo (by assumption) (by assumption) (by assumption)  (.inl (by assumption))) | exact key _ (cl_lo (by assumption) (by assumption) (by assumption)  (.inr (by assumption))) | exact key _ (cl_hi (by assumption) (by assumption) (by assumption)  (by assumption) (by assumption) (by assumption) ) | exact key _ (cl_id (by assumption) (by assumption) (by assumption)  (by assumption) (by assumption) (by assumption) )
       ·
        refine H.kd 2 (fun b => b) (a < 18446744073709551616) (by (first | assumption | omega | decide | rfl)) (by kernel_rfl) ?_
        refine H.kd 0 (fun b => b) (b < 18446744073709551616) (by (first | assumption | omega | decide | rfl)) (by kernel_rfl) ?_
        refine H.sd 3 (fun b => b) (cmpO a b > 0) (by kernel_rfl) (fun h5 => ?_) (fun h5 => ?_)
        ·
         refine H.lf (f := Prod.fst) 0 (AV.v (Value.float FloatKind.f64 a)) (by kernel_rfl) ?_
         first | exact key _ (cl_nan (.inl (by assumption))) | exact key _ (cl_nan (.inr (.inl (by assumption)))) | exact key _ (cl_nan (.inr (.inr (by assumption)))) | exact key _ (cl_lo (by assumption) (by assumption) (by assumption)  (.inl (by assumption))) | exact key _ (cl_lo (by assumption) (by assumption) (by assumption)  (.inr (by assumption))) | exact key _ (cl_hi (by assumption) (by assumption) (by assumption)  (by assumption) (by assumption) (by assumption) ) | exact key _ (cl_id (by assumption) (by assumption) (by assumption)  (by assumption) (by assumption) (by assumption) )
        ·
         refine H.kd 0 (fun b => b) (x < 18446744073709551616) (by (first | assumption | omega | decide | rfl)) (by kernel_rfl) ?_
         refine H.kd 0 (fun b => b) (b < 18446744073709551616) (by (first | assumption | omega | decide | rfl)) (by kernel_rfl) ?_
         refine H.sd 1 (fun b => b) (cmpO x b > 0) (by kernel_rfl) (fun h6 => ?_) (fun h6 => ?_)
         ·
          refine H.lf (f := Prod.fst) 0 (AV.v (Value.float FloatKind.f64 b)) (by kernel_rfl) ?_
          first | exact key _ (cl_nan (.inl (by assumption))) | exact key _ (cl_nan (.inr (.inl (by assumption)))) | exact key _ (cl_nan (.inr (.inr (by assumption)))) | exact key _ (cl_lo (by assumption) (by assumption) (by assumption)  (.inl (by assumption))) | exact key _ (cl_lo (by assumption) (by assumption) (by assumption)  (.inr (by assumption))) | exact key _ (cl_hi (by assumption) (by assumption) (by assumption)  (by assumption) (by assumption) (by assumption) ) | exact key _ (cl_id (by assumption) (by assumption) (by assumption)  (by assumption) (by assumption) (by assumption) )
         ·
          refine H.lf (f := Prod.fst) 0 (AV.v (Value.float FloatKind.f64 x)) (by kernel_rfl) ?_
          first | exact key _ (cl_nan (.inl (by assumption))) | exact key _ (cl_nan (.inr (.inl (by assumption)))) | exact key _ (cl_nan (.inr (.inr (by assumption)))) | exact key _ (cl_lo (by assumption) (by assumption) (by assumption)  (.inl (by assumption))) | exact key _ (cl_lo (by assumption) (by assumption) (by assumption)  (.inr (by assumption))) | exact key _ (cl_hi (by assumption) (by assumption) (by assumption)  (by assumption) (by assumption) (by assumption) ) | exact key _ (cl_id (by assumption) (by assumption) (by assumption)  (by assumption) (by assumption) (by assumption) )
      ·
       refine H.lf (f := Prod.fst) 1 (AV.v (Value.float FloatKind.f64 (Int.toNat 9221120237041090561))) (by kernel_rfl) ?_
       first | exact key _ (cl_nan (.inl (by assumption))) | exact key _ (cl_nan (.inr (.inl (by assumption)))) | exact key _ (cl_nan (.inr (.inr (by assumption)))) | exact key _ (cl_lo (by assumption) (by assumption) (by assumption)  (.inl (by assumption))) | exact key _ (cl_lo (by assumption) (by assumption) (by assumption)  (.inr (by assumption))) | exact key _ (cl_hi (by assumption) (by assumption) (by assumption)  (by assumption) (by assumption) (by assumption) ) | exact key _ (cl_id (by assumption) (by assumption) (by assumption)  (by assumption) (by assumption) (by assumption) )
     ·
      refine H.lf (f := Prod.fst) 5 (AV.v (Value.float FloatKind.f64 (Int.toNat 9221120237041090561))) (by kernel_rfl) ?_
      first | exact key _ (cl_nan (.inl (by assumption))) | exact key _ (cl_nan (.inr (.inl (by assumption)))) | exact key _ (cl_nan (.inr (.inr (by assumption)))) | exact key _ (cl_lo (by assumption) (by assumption) (by assumption)  (.inl (by assumption))) | exact key _ (cl_lo (by assumption) (by assumption) (by assumption)  (.inr (by assumption))) | exact key _ (cl_hi (by assumption) (by assumption) (by assumption)  (by assumption) (by assumption) (by assumption) ) | exact key _ (cl_id (by assumption) (by assumption) (by assumption)  (by assumption) (by assumption) (by assumption) )
    ·
     refine H.lf (f := Prod.fst) 9 (AV.v (Value.float FloatKind.f64 (Int.toNat 9221120237041090561))) (by kernel_rfl) ?_
     first | exact key _ (cl_nan (.inl (by assumption))) | exact key _ (cl_nan (.inr (.inl (by assumption)))) | exact key _ (cl_nan (.inr (.inr (by assumption)))) | exact key _ (cl_lo (by assumption) (by assumption) (by assumption)  (.inl (by assumption))) | exact key _ (cl_lo (by assumption) (by assumption) (by assumption)  (.inr (by assumption))) | exact key _ (cl_hi (by assumption) (by assumption) (by assumption)  (by assumption) (by assumption) (by assumption) ) | exact key _ (cl_id (by assumption) (by assumption) (by assumption)  (by assumption) (by assumption) (by assumption) )
  · exact h.elim
theorem c50 : Ctr S2 50 g50 := by
  intro args Q h
  unfold g50 at h
  split at h
  · rename_i x a b
    obtain ⟨hx, h⟩ := br_ok h
    have hx := of_decide_eq_true hx
    obtain ⟨ha, h⟩ := br_ok h
    have ha := of_decide_eq_true ha
    obtain ⟨hb, h⟩ := br_ok h
    have hb := of_decide_eq_true hb
    have key : ∀ v : Nat, v = clampO x a b → PQ Q (fv v) := fun v e => e ▸ ⟨rfl, h⟩
    refine ⟨rfl, ?_⟩
    refine H.sb 1 (fun b => ((!b) == false)) (Ieee.Format.order { exponentBits := 11, fractionBits := 52 } x x == some Ordering.eq) (by kernel_rfl) (fun h1 => ?_) (fun h1 => ?_)
    ·
     refine H.sb 3 (fun b => ((!b) == false)) (Ieee.Format.order { exponentBits := 11, fractionBits := 52 } a a == some Ordering.eq) (by kernel_rfl) (fun h2 => ?_) (fun h2 => ?_)
     ·
      refine H.sb 3 (fun b => (!b)) (Ieee.Format.order { exponentBits := 11, fractionBits := 52 } b b == some Ordering.eq) (by kernel_rfl) (fun h3 => ?_) (fun h3 => ?_)
      ·
       refine H.kd 0 (fun b => b) (x < 18446744073709551616) (by (first | assumption | omega | decide | rfl)) (by kernel_rfl) ?_
       refine H.kd 0 (fun b => b) (a < 18446744073709551616) (by (first | assumption | omega | decide | rfl)) (by kernel_rfl) ?_
       refine H.sd 1 (fun b => (b == false)) (cmpO x a < 0) (by kernel_rfl) (fun h4 => ?_) (fun h4 => ?_)
       ·
        refine H.lf (f := Prod.fst) 5 (AV.v (Value.float FloatKind.f64 a)) (by kernel_rfl) ?_
        first | exact key _ (cl_nan (.inl (by assumption))) | exact key _ (cl_nan (.inr (.inl (by assumption)))) | exact key _ (cl_nan (.inr (.inr (by assumption)))) | exact key _ (cl_lo (by assumption) (by assumption) (by assumption)  (.inl (by assumption))) | exact key _ (cl_lo (by assumption) (by assumption) (by assumption)  (.inr (by assumption))) | exact key _ (cl_hi (by assumption) (by assumption) (by assumption)  (by assumption) (by assumption) (by assumption) ) | exact key _ (cl_id (by assumption) (by assumption) (by assumption)  (by assumption) (by assumption) (by assumption) )
       ·
        refine H.kd 2 (fun b => b) (a < 18446744073709551616) (by (first | assumption | omega | decide | rfl)) (by kernel_rfl) ?_
        refine H.kd 0 (fun b => b) (b < 18446744073709551616) (by (first | assumption | omega | decide | rfl)) (by kernel_rfl) ?_
        refine H.sd 3 (fun b => b) (cmpO a b > 0) (by kernel_rfl) (fun h5 => ?_) (fun h5 => ?_)
        ·
         refine H.lf (f := Prod.fst) 0 (AV.v (Value.float FloatKind.f64 a)) (by kernel_rfl) ?_
         first | exact key _ (cl_nan (.inl (by assumption))) | exact key _ (cl_nan (.inr (.inl (by assumption)))) | exact key _ (cl_nan (.inr (.inr (by assumption)))) | exact key _ (cl_lo (by assumption) (by assumption) (by assumption)  (.inl (by assumption))) | exact key _ (cl_lo (by assumption) (by assumption) (by assumption)  (.inr (by assumption))) | exact key _ (cl_hi (by assumption) (by assumption) (by assumption)  (by assumption) (by assumption) (by assumption) ) | exact key _ (cl_id (by assumption) (by assumption) (by assumption)  (by assumption) (by assumption) (by assumption) )
        ·
         refine H.kd 0 (fun b => b) (x < 18446744073709551616) (by (first | assumption | omega | decide | rfl)) (by kernel_rfl) ?_
         refine H.kd 0 (fun b => b) (b < 18446744073709551616) (by (first | assumption | omega | decide | rfl)) (by kernel_rfl) ?_
         refine H.sd 1 (fun b => b) (cmpO x b > 0) (by kernel_rfl) (fun h6 => ?_) (fun h6 => ?_)
         ·
          refine H.lf (f := Prod.fst) 0 (AV.v (Value.float FloatKind.f64 b)) (by kernel_rfl) ?_
          first | exact key _ (cl_nan (.inl (by assumption))) | exact key _ (cl_nan (.inr (.inl (by assumption)))) | exact key _ (cl_nan (.inr (.inr (by assumption)))) | exact key _ (cl_lo (by assumption) (by assumption) (by assumption)  (.inl (by assumption))) | exact key _ (cl_lo (by assumption) (by assumption) (by assumption)  (.inr (by assumption))) | exact key _ (cl_hi (by assumption) (by assumption) (by assumption)  (by assumption) (by assumption) (by assumption) ) | exact key _ (cl_id (by assumption) (by assumption) (by assumption)  (by assumption) (by assumption) (by assumption) )
         ·
          refine H.lf (f := Prod.fst) 0 (AV.v (Value.float FloatKind.f64 x)) (by kernel_rfl) ?_
          first | exact key _ (cl_nan (.inl (by assumption))) | exact key _ (cl_nan (.inr (.inl (by assumption)))) | exact key _ (cl_nan (.inr (.inr (by assumption)))) | exact key _ (cl_lo (by assumption) (by assumption) (by assumption)  (.inl (by assumption))) | exact key _ (cl_lo (by assumption) (by assumption) (by assumption)  (.inr (by assumption))) | exact key _ (cl_hi (by assumption) (by assumption) (by assumption)  (by assumption) (by assumption) (by assumption) ) | exact key _ (cl_id (by assumption) (by assumption) (by assumption)  (by assumption) (by assumption) (by assumption) )
      ·
       refine H.lf (f := Prod.fst) 1 (AV.v (Value.float FloatKind.f64 (Int.toNat 9221120237041090561))) (by kernel_rfl) ?_
       first | exact key _ (cl_nan (.inl (by assumption))) | exact key _ (cl_nan (.inr (.inl (by assumption)))) | exact key _ (cl_nan (.inr (.inr (by assumption)))) | exact key _ (cl_lo (by assumption) (by assumption) (by assumption)  (.inl (by assumption))) | exact key _ (cl_lo (by assumption) (by assumption) (by assumption)  (.inr (by assumption))) | exact key _ (cl_hi (by assumption) (by assumption) (by assumption)  (by assumption) (by assumption) (by assumption) ) | exact key _ (cl_id (by assumption) (by assumption) (by assumption)  (by assumption) (by assumption) (by assumption) )
     ·
      refine H.lf (f := Prod.fst) 5 (AV.v (Value.float FloatKind.f64 (Int.toNat 9221120237041090561))) (by kernel_rfl) ?_
      first | exact key _ (cl_nan (.inl (by assumption))) | exact key _ (cl_nan (.inr (.inl (by assumption)))) | exact key _ (cl_nan (.inr (.inr (by assumption)))) | exact key _ (cl_lo (by assumption) (by assumption) (by assumption)  (.inl (by assumption))) | exact key _ (cl_lo (by assumption) (by assumption) (by assumption)  (.inr (by assumption))) | exact key _ (cl_hi (by assumption) (by assumption) (by assumption)  (by assumption) (by assumption) (by assumption) ) | exact key _ (cl_id (by assumption) (by assumption) (by assumption)  (by assumption) (by assumption) (by assumption) )
    ·
     refine H.lf (f := Prod.fst) 9 (AV.v (Value.float FloatKind.f64 (Int.toNat 9221120237041090561))) (by kernel_rfl) ?_
     first | exact key _ (cl_nan (.inl (by assumption))) | exact key _ (cl_nan (.inr (.inl (by assumption)))) | exact key _ (cl_nan (.inr (.inr (by assumption)))) | exact key _ (cl_lo (by assumption) (by assumption) (by assumption)  (.inl (by assumption))) | exact key _ (cl_lo (by assumption) (by assumption) (by assumption)  (.inr (by assumption))) | exact key _ (cl_hi (by assumption) (by assumption) (by assumption)  (by assumption) (by assumption) (by assumption) ) | exact key _ (cl_id (by assumption) (by assumption) (by assumption)  (by assumption) (by assumption) (by assumption) )
  · exact h.elim
theorem c63 : Ctr S3 63 g63 := by
  intro args Q h
  unfold g63 at h
  split at h
  · rename_i x
    obtain ⟨hx, h⟩ := br_ok h
    have hx := of_decide_eq_true hx
    have key : ∀ v : Nat, v = clampO x 0 f1W → PQ Q (fv v) := fun v e => e ▸ ⟨rfl, h⟩
    refine ⟨rfl, ?_⟩
    refine H.kd 1 (fun b => b) (x < 18446744073709551616) (by (first | assumption | omega | decide | rfl)) (by kernel_rfl) ?_
    refine H.sb 3 (fun b => b) (Ieee.Format.order { exponentBits := 11, fractionBits := 52 } (clampO x 0 4607182418800017408) 0 == some Ordering.eq) (by kernel_rfl) (fun h1 => ?_) (fun h1 => ?_)
    ·
     refine H.lf (f := Prod.fst) 0 (AV.v (Value.float FloatKind.f64 0)) (by kernel_rfl) ?_
     first | exact key _ (clamp_zero (by assumption) (by assumption)) | exact key _ rfl
    ·
     refine H.lf (f := Prod.fst) 0 (AV.v (Value.float FloatKind.f64 (clampO x 0 4607182418800017408))) (by kernel_rfl) ?_
     first | exact key _ (clamp_zero (by assumption) (by assumption)) | exact key _ rfl
  · exact h.elim
theorem c51 : Ctr Sx 51 g51 := by
  intro args Q h
  unfold g51 at h
  split at h
  · rename_i x y
    obtain ⟨e, h⟩ := br_ok h
    have e := of_decide_eq_true e
    have key : ∀ v : Bool, v = true → PQ Q (.b v) := fun v e => e ▸ ⟨rfl, h⟩
    refine ⟨rfl, ?_⟩
    refine H.sb 1 (fun b => ((!b) == false)) (Ieee.Format.order { exponentBits := 11, fractionBits := 52 } x x == some Ordering.eq) (by kernel_rfl) (fun h1 => ?_) (fun h1 => ?_)
    ·
     refine H.sb 3 (fun b => (!b)) (Ieee.Format.order { exponentBits := 11, fractionBits := 52 } y y == some Ordering.eq) (by kernel_rfl) (fun h2 => ?_) (fun h2 => ?_)
     ·
      refine H.lf (f := Prod.fst) 1 (AV.b (uI x == uI y)) (by kernel_rfl) ?_
      subst e; first | exact key _ (eqf_same x) | exact key _ (eqf_abs h1 h2) | exact key _ (eqf_nan (by assumption))
     ·
      refine H.kb 0 (fun b => ((!b) == true)) (b := (Ieee.Format.order { exponentBits := 11, fractionBits := 52 } x x == some Ordering.eq)) (d := true) (by (first | assumption | omega | decide | rfl | (subst e; rfl))) (by kernel_rfl) ?_
      refine H.lf (f := Prod.fst) 3 (AV.b false) (by kernel_rfl) ?_
      subst e; first | exact key _ (eqf_same x) | exact key _ (eqf_abs h1 h2) | exact key _ (eqf_nan (by assumption))
    ·
     refine H.kb 4 (fun b => ((!b) == true)) (b := (Ieee.Format.order { exponentBits := 11, fractionBits := 52 } x x == some Ordering.eq)) (d := false) (by (first | assumption | omega | decide | rfl | (subst e; rfl))) (by kernel_rfl) ?_
     refine H.lf (f := Prod.fst) 3 (AV.b (Ieee.Format.order { exponentBits := 11, fractionBits := 52 } y y != some Ordering.eq)) (by kernel_rfl) ?_
     subst e; first | exact key _ (eqf_same x) | exact key _ (eqf_abs h1 h2) | exact key _ (eqf_nan (by assumption))
  · exact h.elim
theorem c46 : Ctr S4 46 g46 := by
  intro args Q h
  unfold g46 at h
  split at h
  · rename_i s c
    obtain ⟨hs, h⟩ := br_ok h
    have hs := of_decide_eq_true hs
    have key : ∀ v : Bool, v = healthO s c → PQ Q (.b v) := fun v e => e ▸ ⟨rfl, h⟩
    refine ⟨rfl, ?_⟩
    refine H.se 4 (fun b => b) (c) (0) (by kernel_rfl) (fun h1 => ?_) (fun h1 => ?_)
    ·
     refine H.lf (f := Prod.fst) 3 (AV.b (Ieee.Format.order { exponentBits := 11, fractionBits := 52 } s s != some Ordering.eq)) (by kernel_rfl) ?_
     first | exact key _ (hm_none (by assumption)) | exact key _ (hm_bad (by omega)) | exact key _ (hm_yes (by assumption) (by assumption) (by assumption) (by assumption)) | exact key _ (hm_no (by assumption) (by assumption) (by assumption) (by assumption)) | exact key _ (hm_low (by assumption) (by assumption)) | exact key _ (hm_ref (by assumption) (by assumption) (by assumption) (by assumption))
    ·
     refine H.sd 7 (fun b => (b == true)) (c > 0) (by kernel_rfl) (fun h2 => ?_) (fun h2 => ?_)
     ·
      refine H.kd 2 (fun b => (b == true)) (c > 0) (by (first | assumption | omega | decide | exact clampO_lt (by assumption) (by decide) (by decide))) (by kernel_rfl) ?_
      refine H.kd 1 (fun b => (b == true)) (c > 0) (by (first | assumption | omega | decide | exact clampO_lt (by assumption) (by decide) (by decide))) (by kernel_rfl) ?_
      refine H.kd 2 (fun b => b) (c > 0) (by (first | assumption | omega | decide | exact clampO_lt (by assumption) (by decide) (by decide))) (by kernel_rfl) ?_
      refine H.sd 2 (fun b => (b == true)) (c ≤ 1099511627776) (by kernel_rfl) (fun h3 => ?_) (fun h3 => ?_)
      ·
       refine H.kd 2 (fun b => (b == true)) (c ≤ 1099511627776) (by (first | assumption | omega | decide | exact clampO_lt (by assumption) (by decide) (by decide))) (by kernel_rfl) ?_
       refine H.kd 1 (fun b => (b == true)) (c ≤ 1099511627776) (by (first | assumption | omega | decide | exact clampO_lt (by assumption) (by decide) (by decide))) (by kernel_rfl) ?_
       refine H.kd 2 (fun b => (b == true)) (c ≤ 1099511627776) (by (first | assumption | omega | decide | exact clampO_lt (by assumption) (by decide) (by decide))) (by kernel_rfl) ?_
       refine H.kd 1 (fun b => (b == true)) (c ≤ 1099511627776) (by (first | assumption | omega | decide | exact clampO_lt (by assumption) (by decide) (by decide))) (by kernel_rfl) ?_
       refine H.kd 0 (fun b => b) (s < 18446744073709551616) (by (first | assumption | omega | decide | exact clampO_lt (by assumption) (by decide) (by decide))) (by kernel_rfl) ?_
       refine H.kd 3 (fun b => (b == true)) (c ≤ 1099511627776) (by (first | assumption | omega | decide | exact clampO_lt (by assumption) (by decide) (by decide))) (by kernel_rfl) ?_
       refine H.kd 0 (fun b => b) (s < 18446744073709551616) (by (first | assumption | omega | decide | exact clampO_lt (by assumption) (by decide) (by decide))) (by kernel_rfl) ?_
       refine H.kd 0 (fun b => b) (clampO s 0 4607182418800017408 < 18446744073709551616) (by (first | assumption | omega | decide | exact clampO_lt (by assumption) (by decide) (by decide))) (by kernel_rfl) ?_
       refine H.kd 1 (fun b => b) (c ≤ 1099511627776) (by (first | assumption | omega | decide | exact clampO_lt (by assumption) (by decide) (by decide))) (by kernel_rfl) ?_
       refine H.se 2 (fun b => (b == true)) (cmpO s (clampO s 0 4607182418800017408)) (0) (by kernel_rfl) (fun h4 => ?_) (fun h4 => ?_)
       ·
        refine H.ke 2 (fun b => (b == true)) (cmpO s (clampO s 0 4607182418800017408)) (0) (by (first | assumption | omega | decide | exact clampO_lt (by assumption) (by decide) (by decide))) (by kernel_rfl) ?_
        refine H.ke 1 (fun b => (b == true)) (cmpO s (clampO s 0 4607182418800017408)) (0) (by (first | assumption | omega | decide | exact clampO_lt (by assumption) (by decide) (by decide))) (by kernel_rfl) ?_
        refine H.ke 2 (fun b => (b == true)) (cmpO s (clampO s 0 4607182418800017408)) (0) (by (first | assumption | omega | decide | exact clampO_lt (by assumption) (by decide) (by decide))) (by kernel_rfl) ?_
        refine H.ke 3 (fun b => (b == true)) (cmpO s (clampO s 0 4607182418800017408)) (0) (by (first | assumption | omega | decide | exact clampO_lt (by assumption) (by decide) (by decide))) (by kernel_rfl) ?_
        refine H.lf (f := Prod.fst) 2 (AV.b (Ieee.Format.order { exponentBits := 11, fractionBits := 52 } s s == some Ordering.eq)) (by kernel_rfl) ?_
        first | exact key _ (hm_none (by assumption)) | exact key _ (hm_bad (by omega)) | exact key _ (hm_yes (by assumption) (by assumption) (by assumption) (by assumption)) | exact key _ (hm_no (by assumption) (by assumption) (by assumption) (by assumption)) | exact key _ (hm_low (by assumption) (by assumption)) | exact key _ (hm_ref (by assumption) (by assumption) (by assumption) (by assumption))
       ·
        refine H.ne 1 (fun b => (b == true)) (cmpO s (clampO s 0 4607182418800017408)) (0) (by (first | assumption | omega | decide | exact clampO_lt (by assumption) (by decide) (by decide))) (by kernel_rfl) ?_
        refine H.ne 1 (fun b => (b == true)) (cmpO s (clampO s 0 4607182418800017408)) (0) (by (first | assumption | omega | decide | exact clampO_lt (by assumption) (by decide) (by decide))) (by kernel_rfl) ?_
        refine H.ne 1 (fun b => (b == true)) (cmpO s (clampO s 0 4607182418800017408)) (0) (by (first | assumption | omega | decide | exact clampO_lt (by assumption) (by decide) (by decide))) (by kernel_rfl) ?_
        refine H.ne 3 (fun b => (b == true)) (cmpO s (clampO s 0 4607182418800017408)) (0) (by (first | assumption | omega | decide | exact clampO_lt (by assumption) (by decide) (by decide))) (by kernel_rfl) ?_
        refine H.lf (f := Prod.fst) 2 (AV.b false) (by kernel_rfl) ?_
        first | exact key _ (hm_none (by assumption)) | exact key _ (hm_bad (by omega)) | exact key _ (hm_yes (by assumption) (by assumption) (by assumption) (by assumption)) | exact key _ (hm_no (by assumption) (by assumption) (by assumption) (by assumption)) | exact key _ (hm_low (by assumption) (by assumption)) | exact key _ (hm_ref (by assumption) (by assumption) (by assumption) (by assumption))
      ·
       refine H.nd 1 (fun b => (b == true)) (c ≤ 1099511627776) (by (first | assumption | omega | decide | exact clampO_lt (by assumption) (by decide) (by decide))) (by kernel_rfl) ?_
       refine H.nd 1 (fun b => (b == true)) (c ≤ 1099511627776) (by (first | assumption | omega | decide | exact clampO_lt (by assumption) (by decide) (by decide))) (by kernel_rfl) ?_
       refine H.nd 1 (fun b => (b == true)) (c ≤ 1099511627776) (by (first | assumption | omega | decide | exact clampO_lt (by assumption) (by decide) (by decide))) (by kernel_rfl) ?_
       refine H.nd 1 (fun b => (b == true)) (c ≤ 1099511627776) (by (first | assumption | omega | decide | exact clampO_lt (by assumption) (by decide) (by decide))) (by kernel_rfl) ?_
       refine H.nd 1 (fun b => (b == true)) (c ≤ 1099511627776) (by (first | assumption | omega | decide | exact clampO_lt (by assumption) (by decide) (by decide))) (by kernel_rfl) ?_
       refine H.nd 1 (fun b => b) (c ≤ 1099511627776) (by (first | assumption | omega | decide | exact clampO_lt (by assumption) (by decide) (by decide))) (by kernel_rfl) ?_
       refine H.lf (f := Prod.fst) 15 (AV.b false) (by kernel_rfl) ?_
       first | exact key _ (hm_none (by assumption)) | exact key _ (hm_bad (by omega)) | exact key _ (hm_yes (by assumption) (by assumption) (by assumption) (by assumption)) | exact key _ (hm_no (by assumption) (by assumption) (by assumption) (by assumption)) | exact key _ (hm_low (by assumption) (by assumption)) | exact key _ (hm_ref (by assumption) (by assumption) (by assumption) (by assumption))
     ·
      refine H.nd 1 (fun b => (b == true)) (c > 0) (by (first | assumption | omega | decide | exact clampO_lt (by assumption) (by decide) (by decide))) (by kernel_rfl) ?_
      refine H.nd 1 (fun b => (b == true)) (c > 0) (by (first | assumption | omega | decide | exact clampO_lt (by assumption) (by decide) (by decide))) (by kernel_rfl) ?_
      refine H.nd 1 (fun b => b) (c > 0) (by (first | assumption | omega | decide | exact clampO_lt (by assumption) (by decide) (by decide))) (by kernel_rfl) ?_
      refine H.lf (f := Prod.fst) 30 (AV.b false) (by kernel_rfl) ?_
      first | exact key _ (hm_none (by assumption)) | exact key _ (hm_bad (by omega)) | exact key _ (hm_yes (by assumption) (by assumption) (by assumption) (by assumption)) | exact key _ (hm_no (by assumption) (by assumption) (by assumption) (by assumption)) | exact key _ (hm_low (by assumption) (by assumption)) | exact key _ (hm_ref (by assumption) (by assumption) (by assumption) (by assumption))
  · exact h.elim
theorem c20 : Ctr S4 20 g20 := by
  intro args Q h
  unfold g20 at h
  split at h
  · rename_i s c
    obtain ⟨hs, h⟩ := br_ok h
    have hs := of_decide_eq_true hs
    have key : ∀ v : Bool, v = healthO s c → PQ Q (.b v) := fun v e => e ▸ ⟨rfl, h⟩
    refine ⟨rfl, ?_⟩
    refine H.sd 5 (fun b => (b == true)) (c ≥ 0) (by kernel_rfl) (fun h1 => ?_) (fun h1 => ?_)
    ·
     refine H.sd 4 (fun b => (!b)) (c ≤ 1099511627776) (by kernel_rfl) (fun h2 => ?_) (fun h2 => ?_)
     ·
      refine H.se 2 (fun b => b) (c) (0) (by kernel_rfl) (fun h3 => ?_) (fun h3 => ?_)
      ·
       refine H.lf (f := Prod.fst) 3 (AV.b (Ieee.Format.order { exponentBits := 11, fractionBits := 52 } s s != some Ordering.eq)) (by kernel_rfl) ?_
       first | exact key _ (hm_none (by assumption)) | exact key _ (hm_bad (by omega)) | exact key _ (hm_yes (by assumption) (by assumption) (by assumption) (by assumption)) | exact key _ (hm_no (by assumption) (by assumption) (by assumption) (by assumption)) | exact key _ (hm_low (by assumption) (by assumption)) | exact key _ (hm_ref (by assumption) (by assumption) (by assumption) (by assumption))
      ·
       refine H.kd 1 (fun b => b) (s < 18446744073709551616) (by (first | assumption | omega | decide | exact clampO_lt (by assumption) (by decide) (by decide))) (by kernel_rfl) ?_
       refine H.sd 2 (fun b => (b == true)) (cmpO s 0 ≥ 0) (by kernel_rfl) (fun h4 => ?_) (fun h4 => ?_)
       ·
        refine H.kd 3 (fun b => b) (s < 18446744073709551616) (by (first | assumption | omega | decide | exact clampO_lt (by assumption) (by decide) (by decide))) (by kernel_rfl) ?_
        refine H.lf (f := Prod.fst) 5 (AV.b (decide (cmpO s 4607182418800017408 ≤ 0))) (by kernel_rfl) ?_
        first | exact key _ (hm_none (by assumption)) | exact key _ (hm_bad (by omega)) | exact key _ (hm_yes (by assumption) (by assumption) (by assumption) (by assumption)) | exact key _ (hm_no (by assumption) (by assumption) (by assumption) (by assumption)) | exact key _ (hm_low (by assumption) (by assumption)) | exact key _ (hm_ref (by assumption) (by assumption) (by assumption) (by assumption))
       ·
        refine H.lf (f := Prod.fst) 5 (AV.b false) (by kernel_rfl) ?_
        first | exact key _ (hm_none (by assumption)) | exact key _ (hm_bad (by omega)) | exact key _ (hm_yes (by assumption) (by assumption) (by assumption) (by assumption)) | exact key _ (hm_no (by assumption) (by assumption) (by assumption) (by assumption)) | exact key _ (hm_low (by assumption) (by assumption)) | exact key _ (hm_ref (by assumption) (by assumption) (by assumption) (by assumption))
     ·
      refine H.lf (f := Prod.fst) 1 (AV.b false) (by kernel_rfl) ?_
      first | exact key _ (hm_none (by assumption)) | exact key _ (hm_bad (by omega)) | exact key _ (hm_yes (by assumption) (by assumption) (by assumption) (by assumption)) | exact key _ (hm_no (by assumption) (by assumption) (by assumption) (by assumption)) | exact key _ (hm_low (by assumption) (by assumption)) | exact key _ (hm_ref (by assumption) (by assumption) (by assumption) (by assumption))
    ·
     refine H.lf (f := Prod.fst) 5 (AV.b false) (by kernel_rfl) ?_
     first | exact key _ (hm_none (by assumption)) | exact key _ (hm_bad (by omega)) | exact key _ (hm_yes (by assumption) (by assumption) (by assumption) (by assumption)) | exact key _ (hm_no (by assumption) (by assumption) (by assumption) (by assumption)) | exact key _ (hm_low (by assumption) (by assumption)) | exact key _ (hm_ref (by assumption) (by assumption) (by assumption) (by assumption))
  · exact h.elim
theorem c47 : Ctr S5 47 g47 := by
  intro args Q h
  unfold g47 at h
  split at h
  · rename_i s c x w
    obtain ⟨hs, h⟩ := br_ok h
    have hs := of_decide_eq_true hs
    obtain ⟨hx, h⟩ := br_ok h
    have hx := of_decide_eq_true hx
    obtain ⟨hw, h⟩ := br_ok h
    have hw := of_decide_eq_true hw
    obtain ⟨hh, h⟩ := br_ok h
    obtain ⟨hw, h⟩ := br_ok h
    have key : ∀ a b, a = noteO s c x w → b = noteC c x → PQ Q (.agg [fv a, iv b]) := fun a b e e2 => by subst e e2; exact ⟨rfl, h⟩
    refine ⟨rfl, ?_⟩
    refine H.kd 3 (fun b => b) (x < 18446744073709551616) (by (first | assumption | omega | exact (note_arith (by assumption) (by assumption) (by assumption) (by first | assumption | omega) (by first | exact isnum_of (by assumption) | exact clamp_isnum (by assumption) (by assumption)) (by assumption)).1 | exact (note_arith (by assumption) (by assumption) (by assumption) (by first | assumption | omega) (by first | exact isnum_of (by assumption) | exact clamp_isnum (by assumption) (by assumption)) (by assumption)).2.1 | exact (note_arith (by assumption) (by assumption) (by assumption) (by first | assumption | omega) (by first | exact isnum_of (by assumption) | exact clamp_isnum (by assumption) (by assumption)) (by assumption)).2.2.1 | exact (note_arith (by assumption) (by assumption) (by assumption) (by first | assumption | omega) (by first | exact isnum_of (by assumption) | exact clamp_isnum (by assumption) (by assumption)) (by assumption)).2.2.2)) (by kernel_rfl) ?_
    refine H.sb 0 (fun b => (!b)) (Ieee.Format.order { exponentBits := 11, fractionBits := 52 } (clampO x 0 4607182418800017408) (clampO x 0 4607182418800017408) == some Ordering.eq) (by kernel_rfl) (fun h1 => ?_) (fun h1 => ?_)
    ·
     refine H.sd 2 (fun b => b) (c > 0) (by kernel_rfl) (fun h2 => ?_) (fun h2 => ?_)
     ·
      refine H.kb 2 (fun b => b) (b := (Option.isSome (floatBits BinOp.sub FloatKind.f64 (clampO x 0 4607182418800017408) s))) (d := true) (by (first | assumption | omega | exact (note_arith (by assumption) (by assumption) (by assumption) (by first | assumption | omega) (by first | exact isnum_of (by assumption) | exact clamp_isnum (by assumption) (by assumption)) (by assumption)).1 | exact (note_arith (by assumption) (by assumption) (by assumption) (by first | assumption | omega) (by first | exact isnum_of (by assumption) | exact clamp_isnum (by assumption) (by assumption)) (by assumption)).2.1 | exact (note_arith (by assumption) (by assumption) (by assumption) (by first | assumption | omega) (by first | exact isnum_of (by assumption) | exact clamp_isnum (by assumption) (by assumption)) (by assumption)).2.2.1 | exact (note_arith (by assumption) (by assumption) (by assumption) (by first | assumption | omega) (by first | exact isnum_of (by assumption) | exact clamp_isnum (by assumption) (by assumption)) (by assumption)).2.2.2)) (by kernel_rfl) ?_
      refine H.kb 1 (fun b => b) (b := (Option.isSome (floatBits BinOp.mul FloatKind.f64 w (Option.getD (floatBits BinOp.sub FloatKind.f64 (clampO x 0 4607182418800017408) s) 0)))) (d := true) (by (first | assumption | omega | exact (note_arith (by assumption) (by assumption) (by assumption) (by first | assumption | omega) (by first | exact isnum_of (by assumption) | exact clamp_isnum (by assumption) (by assumption)) (by assumption)).1 | exact (note_arith (by assumption) (by assumption) (by assumption) (by first | assumption | omega) (by first | exact isnum_of (by assumption) | exact clamp_isnum (by assumption) (by assumption)) (by assumption)).2.1 | exact (note_arith (by assumption) (by assumption) (by assumption) (by first | assumption | omega) (by first | exact isnum_of (by assumption) | exact clamp_isnum (by assumption) (by assumption)) (by assumption)).2.2.1 | exact (note_arith (by assumption) (by assumption) (by assumption) (by first | assumption | omega) (by first | exact isnum_of (by assumption) | exact clamp_isnum (by assumption) (by assumption)) (by assumption)).2.2.2)) (by kernel_rfl) ?_
      refine H.kb 2 (fun b => b) (b := (Option.isSome (floatBits BinOp.add FloatKind.f64 s (Option.getD (floatBits BinOp.mul FloatKind.f64 w (Option.getD (floatBits BinOp.sub FloatKind.f64 (clampO x 0 4607182418800017408) s) 0)) 0)))) (d := true) (by (first | assumption | omega | exact (note_arith (by assumption) (by assumption) (by assumption) (by first | assumption | omega) (by first | exact isnum_of (by assumption) | exact clamp_isnum (by assumption) (by assumption)) (by assumption)).1 | exact (note_arith (by assumption) (by assumption) (by assumption) (by first | assumption | omega) (by first | exact isnum_of (by assumption) | exact clamp_isnum (by assumption) (by assumption)) (by assumption)).2.1 | exact (note_arith (by assumption) (by assumption) (by assumption) (by first | assumption | omega) (by first | exact isnum_of (by assumption) | exact clamp_isnum (by assumption) (by assumption)) (by assumption)).2.2.1 | exact (note_arith (by assumption) (by assumption) (by assumption) (by first | assumption | omega) (by first | exact isnum_of (by assumption) | exact clamp_isnum (by assumption) (by assumption)) (by assumption)).2.2.2)) (by kernel_rfl) ?_
      refine H.kd 0 (fun b => b) (Option.getD (floatBits BinOp.add FloatKind.f64 s (Option.getD (floatBits BinOp.mul FloatKind.f64 w (Option.getD (floatBits BinOp.sub FloatKind.f64 (clampO x 0 f1W) s) 0)) 0)) 0 < 18446744073709551616) (by (first | assumption | omega | exact (note_arith (by assumption) (by assumption) (by assumption) (by first | assumption | omega) (by first | exact isnum_of (by assumption) | exact clamp_isnum (by assumption) (by assumption)) (by assumption)).1 | exact (note_arith (by assumption) (by assumption) (by assumption) (by first | assumption | omega) (by first | exact isnum_of (by assumption) | exact clamp_isnum (by assumption) (by assumption)) (by assumption)).2.1 | exact (note_arith (by assumption) (by assumption) (by assumption) (by first | assumption | omega) (by first | exact isnum_of (by assumption) | exact clamp_isnum (by assumption) (by assumption)) (by assumption)).2.2.1 | exact (note_arith (by assumption) (by assumption) (by assumption) (by first | assumption | omega) (by first | exact isnum_of (by assumption) | exact clamp_isnum (by assumption) (by assumption)) (by assumption)).2.2.2)) (by kernel_rfl) ?_
      refine H.lf (f := Prod.fst) 10 (AV.agg [AV.v (Value.float FloatKind.f64 (clampO (Option.getD (floatBits BinOp.add FloatKind.f64 s (Option.getD (floatBits BinOp.mul FloatKind.f64 w (Option.getD (floatBits BinOp.sub FloatKind.f64 (clampO x 0 4607182418800017408) s) 0)) 0)) 0) 0 4607182418800017408)), AV.i IntKind.i64 (if 1099511627776 < wr IntKind.i64 (c + 1) then 1099511627776 else wr IntKind.i64 (c + 1))]) (by kernel_rfl) ?_
      first | exact key _ _ (note_nan (by first | exact isnan_of (by assumption) | exact clamp_nonum (by assumption) (by assumption))).1 (note_nan (s := s) (w := w) (by first | exact isnan_of (by assumption) | exact clamp_nonum (by assumption) (by assumption))).2 | exact key _ _ (note_first (by first | exact isnum_of (by assumption) | exact clamp_isnum (by assumption) (by assumption)) (by first | assumption | exact health_zero (by assumption) (by assumption))).1 (note_first (s := s) (w := w) (by first | exact isnum_of (by assumption) | exact clamp_isnum (by assumption) (by assumption)) (by first | assumption | exact health_zero (by assumption) (by assumption))).2 | exact key _ _ (note_first (by first | exact isnum_of (by assumption) | exact clamp_isnum (by assumption) (by assumption)) (by first | assumption | exact health_zero (by assumption) (by assumption))).1 (note_cnt2 (by assumption) (by first | exact isnum_of (by assumption) | exact clamp_isnum (by assumption) (by assumption))) | exact key _ _ (note_more (by first | exact isnum_of (by assumption) | exact clamp_isnum (by assumption) (by assumption)) (by first | assumption | omega)) (note_cnt2 (by assumption) (by first | exact isnum_of (by assumption) | exact clamp_isnum (by assumption) (by assumption)))
     ·
      refine H.lf (f := Prod.fst) 10 (AV.agg [AV.v (Value.float FloatKind.f64 (clampO x 0 4607182418800017408)), AV.i IntKind.i64 (if 1099511627776 < wr IntKind.i64 (c + 1) then 1099511627776 else wr IntKind.i64 (c + 1))]) (by kernel_rfl) ?_
      first | exact key _ _ (note_nan (by first | exact isnan_of (by assumption) | exact clamp_nonum (by assumption) (by assumption))).1 (note_nan (s := s) (w := w) (by first | exact isnan_of (by assumption) | exact clamp_nonum (by assumption) (by assumption))).2 | exact key _ _ (note_first (by first | exact isnum_of (by assumption) | exact clamp_isnum (by assumption) (by assumption)) (by first | assumption | exact health_zero (by assumption) (by assumption))).1 (note_first (s := s) (w := w) (by first | exact isnum_of (by assumption) | exact clamp_isnum (by assumption) (by assumption)) (by first | assumption | exact health_zero (by assumption) (by assumption))).2 | exact key _ _ (note_first (by first | exact isnum_of (by assumption) | exact clamp_isnum (by assumption) (by assumption)) (by first | assumption | exact health_zero (by assumption) (by assumption))).1 (note_cnt2 (by assumption) (by first | exact isnum_of (by assumption) | exact clamp_isnum (by assumption) (by assumption))) | exact key _ _ (note_more (by first | exact isnum_of (by assumption) | exact clamp_isnum (by assumption) (by assumption)) (by first | assumption | omega)) (note_cnt2 (by assumption) (by first | exact isnum_of (by assumption) | exact clamp_isnum (by assumption) (by assumption)))
    ·
     refine H.lf (f := Prod.fst) 6 (AV.agg [AV.v (Value.float FloatKind.f64 s), AV.i IntKind.i64 c]) (by kernel_rfl) ?_
     first | exact key _ _ (note_nan (by first | exact isnan_of (by assumption) | exact clamp_nonum (by assumption) (by assumption))).1 (note_nan (s := s) (w := w) (by first | exact isnan_of (by assumption) | exact clamp_nonum (by assumption) (by assumption))).2 | exact key _ _ (note_first (by first | exact isnum_of (by assumption) | exact clamp_isnum (by assumption) (by assumption)) (by first | assumption | exact health_zero (by assumption) (by assumption))).1 (note_first (s := s) (w := w) (by first | exact isnum_of (by assumption) | exact clamp_isnum (by assumption) (by assumption)) (by first | assumption | exact health_zero (by assumption) (by assumption))).2 | exact key _ _ (note_first (by first | exact isnum_of (by assumption) | exact clamp_isnum (by assumption) (by assumption)) (by first | assumption | exact health_zero (by assumption) (by assumption))).1 (note_cnt2 (by assumption) (by first | exact isnum_of (by assumption) | exact clamp_isnum (by assumption) (by assumption))) | exact key _ _ (note_more (by first | exact isnum_of (by assumption) | exact clamp_isnum (by assumption) (by assumption)) (by first | assumption | omega)) (note_cnt2 (by assumption) (by first | exact isnum_of (by assumption) | exact clamp_isnum (by assumption) (by assumption)))
  · exact h.elim
theorem c23 : Ctr S5 23 g23 := by
  intro args Q h
  unfold g23 at h
  split at h
  · rename_i s c x w
    obtain ⟨hs, h⟩ := br_ok h
    have hs := of_decide_eq_true hs
    obtain ⟨hx, h⟩ := br_ok h
    have hx := of_decide_eq_true hx
    obtain ⟨hw, h⟩ := br_ok h
    have hw := of_decide_eq_true hw
    obtain ⟨hh, h⟩ := br_ok h
    obtain ⟨hw, h⟩ := br_ok h
    have key : ∀ a b, a = noteO s c x w → b = noteC c x → PQ Q (.agg [fv a, iv b]) := fun a b e e2 => by subst e e2; exact ⟨rfl, h⟩
    refine ⟨rfl, ?_⟩
    refine H.sb 3 (fun b => (!b)) (Ieee.Format.order { exponentBits := 11, fractionBits := 52 } x x == some Ordering.eq) (by kernel_rfl) (fun h1 => ?_) (fun h1 => ?_)
    ·
     refine H.kd 0 (fun b => b) (x < 18446744073709551616) (by (first | assumption | omega | exact (note_arith (by assumption) (by assumption) (by assumption) (by first | assumption | omega) (by first | exact isnum_of (by assumption) | exact clamp_isnum (by assumption) (by assumption)) (by assumption)).1 | exact (note_arith (by assumption) (by assumption) (by assumption) (by first | assumption | omega) (by first | exact isnum_of (by assumption) | exact clamp_isnum (by assumption) (by assumption)) (by assumption)).2.1 | exact (note_arith (by assumption) (by assumption) (by assumption) (by first | assumption | omega) (by first | exact isnum_of (by assumption) | exact clamp_isnum (by assumption) (by assumption)) (by assumption)).2.2.1 | exact (note_arith (by assumption) (by assumption) (by assumption) (by first | assumption | omega) (by first | exact isnum_of (by assumption) | exact clamp_isnum (by assumption) (by assumption)) (by assumption)).2.2.2)) (by kernel_rfl) ?_
     refine H.se 4 (fun b => b) (c) (0) (by kernel_rfl) (fun h2 => ?_) (fun h2 => ?_)
     ·
      refine H.lf (f := Prod.fst) 8 (AV.agg [AV.v (Value.float FloatKind.f64 (clampO x 0 4607182418800017408)), AV.i IntKind.i64 1]) (by kernel_rfl) ?_
      first | exact key _ _ (note_nan (by first | exact isnan_of (by assumption) | exact clamp_nonum (by assumption) (by assumption))).1 (note_nan (s := s) (w := w) (by first | exact isnan_of (by assumption) | exact clamp_nonum (by assumption) (by assumption))).2 | exact key _ _ (note_first (by first | exact isnum_of (by assumption) | exact clamp_isnum (by assumption) (by assumption)) (by first | assumption | exact health_zero (by assumption) (by assumption))).1 (note_first (s := s) (w := w) (by first | exact isnum_of (by assumption) | exact clamp_isnum (by assumption) (by assumption)) (by first | assumption | exact health_zero (by assumption) (by assumption))).2 | exact key _ _ (note_first (by first | exact isnum_of (by assumption) | exact clamp_isnum (by assumption) (by assumption)) (by first | assumption | exact health_zero (by assumption) (by assumption))).1 (note_cnt2 (by assumption) (by first | exact isnum_of (by assumption) | exact clamp_isnum (by assumption) (by assumption))) | exact key _ _ (note_more (by first | exact isnum_of (by assumption) | exact clamp_isnum (by assumption) (by assumption)) (by first | assumption | omega)) (note_cnt2 (by assumption) (by first | exact isnum_of (by assumption) | exact clamp_isnum (by assumption) (by assumption)))
     ·
      refine H.kb 2 (fun b => b) (b := (Option.isSome (floatBits BinOp.sub FloatKind.f64 (clampO x 0 4607182418800017408) s))) (d := true) (by (first | assumption | omega | exact (note_arith (by assumption) (by assumption) (by assumption) (by first | assumption | omega) (by first | exact isnum_of (by assumption) | exact clamp_isnum (by assumption) (by assumption)) (by assumption)).1 | exact (note_arith (by assumption) (by assumption) (by assumption) (by first | assumption | omega) (by first | exact isnum_of (by assumption) | exact clamp_isnum (by assumption) (by assumption)) (by assumption)).2.1 | exact (note_arith (by assumption) (by assumption) (by assumption) (by first | assumption | omega) (by first | exact isnum_of (by assumption) | exact clamp_isnum (by assumption) (by assumption)) (by assumption)).2.2.1 | exact (note_arith (by assumption) (by assumption) (by assumption) (by first | assumption | omega) (by first | exact isnum_of (by assumption) | exact clamp_isnum (by assumption) (by assumption)) (by assumption)).2.2.2)) (by kernel_rfl) ?_
      refine H.kb 1 (fun b => b) (b := (Option.isSome (floatBits BinOp.mul FloatKind.f64 w (Option.getD (floatBits BinOp.sub FloatKind.f64 (clampO x 0 4607182418800017408) s) 0)))) (d := true) (by (first | assumption | omega | exact (note_arith (by assumption) (by assumption) (by assumption) (by first | assumption | omega) (by first | exact isnum_of (by assumption) | exact clamp_isnum (by assumption) (by assumption)) (by assumption)).1 | exact (note_arith (by assumption) (by assumption) (by assumption) (by first | assumption | omega) (by first | exact isnum_of (by assumption) | exact clamp_isnum (by assumption) (by assumption)) (by assumption)).2.1 | exact (note_arith (by assumption) (by assumption) (by assumption) (by first | assumption | omega) (by first | exact isnum_of (by assumption) | exact clamp_isnum (by assumption) (by assumption)) (by assumption)).2.2.1 | exact (note_arith (by assumption) (by assumption) (by assumption) (by first | assumption | omega) (by first | exact isnum_of (by assumption) | exact clamp_isnum (by assumption) (by assumption)) (by assumption)).2.2.2)) (by kernel_rfl) ?_
      refine H.kb 2 (fun b => b) (b := (Option.isSome (floatBits BinOp.add FloatKind.f64 s (Option.getD (floatBits BinOp.mul FloatKind.f64 w (Option.getD (floatBits BinOp.sub FloatKind.f64 (clampO x 0 4607182418800017408) s) 0)) 0)))) (d := true) (by (first | assumption | omega | exact (note_arith (by assumption) (by assumption) (by assumption) (by first | assumption | omega) (by first | exact isnum_of (by assumption) | exact clamp_isnum (by assumption) (by assumption)) (by assumption)).1 | exact (note_arith (by assumption) (by assumption) (by assumption) (by first | assumption | omega) (by first | exact isnum_of (by assumption) | exact clamp_isnum (by assumption) (by assumption)) (by assumption)).2.1 | exact (note_arith (by assumption) (by assumption) (by assumption) (by first | assumption | omega) (by first | exact isnum_of (by assumption) | exact clamp_isnum (by assumption) (by assumption)) (by assumption)).2.2.1 | exact (note_arith (by assumption) (by assumption) (by assumption) (by first | assumption | omega) (by first | exact isnum_of (by assumption) | exact clamp_isnum (by assumption) (by assumption)) (by assumption)).2.2.2)) (by kernel_rfl) ?_
      refine H.kd 0 (fun b => b) (Option.getD (floatBits BinOp.add FloatKind.f64 s (Option.getD (floatBits BinOp.mul FloatKind.f64 w (Option.getD (floatBits BinOp.sub FloatKind.f64 (clampO x 0 4607182418800017408) s) 0)) 0)) 0 < 18446744073709551616) (by (first | assumption | omega | exact (note_arith (by assumption) (by assumption) (by assumption) (by first | assumption | omega) (by first | exact isnum_of (by assumption) | exact clamp_isnum (by assumption) (by assumption)) (by assumption)).1 | exact (note_arith (by assumption) (by assumption) (by assumption) (by first | assumption | omega) (by first | exact isnum_of (by assumption) | exact clamp_isnum (by assumption) (by assumption)) (by assumption)).2.1 | exact (note_arith (by assumption) (by assumption) (by assumption) (by first | assumption | omega) (by first | exact isnum_of (by assumption) | exact clamp_isnum (by assumption) (by assumption)) (by assumption)).2.2.1 | exact (note_arith (by assumption) (by assumption) (by assumption) (by first | assumption | omega) (by first | exact isnum_of (by assumption) | exact clamp_isnum (by assumption) (by assumption)) (by assumption)).2.2.2)) (by kernel_rfl) ?_
      refine H.lf (f := Prod.fst) 18 (AV.agg [AV.v (Value.float FloatKind.f64 (clampO (Option.getD (floatBits BinOp.add FloatKind.f64 s (Option.getD (floatBits BinOp.mul FloatKind.f64 w (Option.getD (floatBits BinOp.sub FloatKind.f64 (clampO x 0 4607182418800017408) s) 0)) 0)) 0) 0 4607182418800017408)), AV.i IntKind.i64 (if 1099511627776 < wr IntKind.i64 (c + 1) then 1099511627776 else wr IntKind.i64 (c + 1))]) (by kernel_rfl) ?_
      first | exact key _ _ (note_nan (by first | exact isnan_of (by assumption) | exact clamp_nonum (by assumption) (by assumption))).1 (note_nan (s := s) (w := w) (by first | exact isnan_of (by assumption) | exact clamp_nonum (by assumption) (by assumption))).2 | exact key _ _ (note_first (by first | exact isnum_of (by assumption) | exact clamp_isnum (by assumption) (by assumption)) (by first | assumption | exact health_zero (by assumption) (by assumption))).1 (note_first (s := s) (w := w) (by first | exact isnum_of (by assumption) | exact clamp_isnum (by assumption) (by assumption)) (by first | assumption | exact health_zero (by assumption) (by assumption))).2 | exact key _ _ (note_first (by first | exact isnum_of (by assumption) | exact clamp_isnum (by assumption) (by assumption)) (by first | assumption | exact health_zero (by assumption) (by assumption))).1 (note_cnt2 (by assumption) (by first | exact isnum_of (by assumption) | exact clamp_isnum (by assumption) (by assumption))) | exact key _ _ (note_more (by first | exact isnum_of (by assumption) | exact clamp_isnum (by assumption) (by assumption)) (by first | assumption | omega)) (note_cnt2 (by assumption) (by first | exact isnum_of (by assumption) | exact clamp_isnum (by assumption) (by assumption)))
    ·
     refine H.lf (f := Prod.fst) 6 (AV.agg [AV.v (Value.float FloatKind.f64 s), AV.i IntKind.i64 c]) (by kernel_rfl) ?_
     first | exact key _ _ (note_nan (by first | exact isnan_of (by assumption) | exact clamp_nonum (by assumption) (by assumption))).1 (note_nan (s := s) (w := w) (by first | exact isnan_of (by assumption) | exact clamp_nonum (by assumption) (by assumption))).2 | exact key _ _ (note_first (by first | exact isnum_of (by assumption) | exact clamp_isnum (by assumption) (by assumption)) (by first | assumption | exact health_zero (by assumption) (by assumption))).1 (note_first (s := s) (w := w) (by first | exact isnum_of (by assumption) | exact clamp_isnum (by assumption) (by assumption)) (by first | assumption | exact health_zero (by assumption) (by assumption))).2 | exact key _ _ (note_first (by first | exact isnum_of (by assumption) | exact clamp_isnum (by assumption) (by assumption)) (by first | assumption | exact health_zero (by assumption) (by assumption))).1 (note_cnt2 (by assumption) (by first | exact isnum_of (by assumption) | exact clamp_isnum (by assumption) (by assumption))) | exact key _ _ (note_more (by first | exact isnum_of (by assumption) | exact clamp_isnum (by assumption) (by assumption)) (by first | assumption | omega)) (note_cnt2 (by assumption) (by first | exact isnum_of (by assumption) | exact clamp_isnum (by assumption) (by assumption)))
  · exact h.elim
theorem c52 : Ctr Sx 52 g52 := by
  intro args Q h
  unfold g52 at h
  split at h
  · rename_i s c f
    have key : ∀ v : Bool, v = goodO s c f → PQ Q (.b v) := fun v e => e ▸ ⟨rfl, h⟩
    refine ⟨rfl, ?_⟩
    refine H.se 4 (fun b => (b == false)) (c) (0) (by kernel_rfl) (fun h1 => ?_) (fun h1 => ?_)
    ·
     refine H.lf (f := Prod.fst) 6 (AV.b true) (by kernel_rfl) ?_
     first | exact key _ (good_zero (by assumption)) | exact key _ (good_more (by assumption)) | exact key _ (good_nan (by assumption))
    ·
     refine H.lf (f := Prod.fst) 7 (AV.b !Ieee.Format.order { exponentBits := 11, fractionBits := 52 } s f == some Ordering.lt) (by kernel_rfl) ?_
     first | exact key _ (good_zero (by assumption)) | exact key _ (good_more (by assumption)) | exact key _ (good_nan (by assumption))
  · exact h.elim
theorem c31 : Ctr Sx 31 g31 := by
  intro args Q h
  unfold g31 at h
  split at h
  · rename_i s c f
    have key : ∀ v : Bool, v = goodO s c f → PQ Q (.b v) := fun v e => e ▸ ⟨rfl, h⟩
    refine ⟨rfl, ?_⟩
    refine H.se 4 (fun b => (b == false)) (c) (0) (by kernel_rfl) (fun h1 => ?_) (fun h1 => ?_)
    ·
     refine H.lf (f := Prod.fst) 10 (AV.b true) (by kernel_rfl) ?_
     first | exact key _ (good_zero (by assumption)) | exact key _ (good_more (by assumption)) | exact key _ (good_nan (by assumption))
    ·
     refine H.sb 3 (fun b => ((!b) == false)) (Ieee.Format.order { exponentBits := 11, fractionBits := 52 } f f == some Ordering.eq) (by kernel_rfl) (fun h2 => ?_) (fun h2 => ?_)
     ·
      refine H.lf (f := Prod.fst) 7 (AV.b !Ieee.Format.order { exponentBits := 11, fractionBits := 52 } s f == some Ordering.lt) (by kernel_rfl) ?_
      first | exact key _ (good_zero (by assumption)) | exact key _ (good_more (by assumption)) | exact key _ (good_nan (by assumption))
     ·
      refine H.lf (f := Prod.fst) 6 (AV.b true) (by kernel_rfl) ?_
      first | exact key _ (good_zero (by assumption)) | exact key _ (good_more (by assumption)) | exact key _ (good_nan (by assumption))
  · exact h.elim
theorem c53 : Ctr S6 53 g53 := by
  intro args Q h
  unfold g53 at h
  split at h
  · rename_i st q u s c
    obtain ⟨hs, h⟩ := br_ok h
    have hs := of_decide_eq_true hs
    have key : ∀ v : Bool, v = brkO st q u s c → PQ Q (.b v) := fun v e => e ▸ ⟨rfl, h⟩
    refine ⟨rfl, ?_⟩
    refine H.sd 5 (fun b => (b == true)) (st ≥ 0) (by kernel_rfl) (fun h1 => ?_) (fun h1 => ?_)
    ·
     refine H.sd 4 (fun b => ((!b) == false)) (st ≤ 2) (by kernel_rfl) (fun h2 => ?_) (fun h2 => ?_)
     ·
      refine H.sd 5 (fun b => (b == true)) (q ≥ 0) (by kernel_rfl) (fun h3 => ?_) (fun h3 => ?_)
      ·
       refine H.sd 6 (fun b => ((!b) == false)) (q ≤ 1048576) (by kernel_rfl) (fun h4 => ?_) (fun h4 => ?_)
       ·
        refine H.kd 3 (fun b => b) (s < 18446744073709551616) (by (first | assumption | omega)) (by kernel_rfl) ?_
        refine H.sb 2 (fun b => (!b)) (healthO s c) (by kernel_rfl) (fun h5 => ?_) (fun h5 => ?_)
        ·
         refine H.se 2 (fun b => (b == false)) (u) (0) (by kernel_rfl) (fun h6 => ?_) (fun h6 => ?_)
         ·
          refine H.lf (f := Prod.fst) 9 (AV.b true) (by kernel_rfl) ?_
          first | exact key _ (bk_no (by omega)) | exact key _ (bk_nh (by assumption)) | exact key _ (bk_h (by omega)) | exact key _ (bk_y (by omega) (by assumption)) | exact key _ (bk_d (by omega) (by assumption)) | exact key _ (bk_d (by simp only [beq_iff_eq]; omega) (by assumption))
         ·
          refine H.se 5 (fun b => (b == true)) (st) (1) (by kernel_rfl) (fun h7 => ?_) (fun h7 => ?_)
          ·
           refine H.sd 5 (fun b => (b == true)) (u ≥ 0) (by kernel_rfl) (fun h8 => ?_) (fun h8 => ?_)
           ·
            refine H.lf (f := Prod.fst) 8 (AV.b (decide (u ≤ 2199023255552))) (by kernel_rfl) ?_
            first | exact key _ (bk_no (by omega)) | exact key _ (bk_nh (by assumption)) | exact key _ (bk_h (by omega)) | exact key _ (bk_y (by omega) (by assumption)) | exact key _ (bk_d (by omega) (by assumption)) | exact key _ (bk_d (by simp only [beq_iff_eq]; omega) (by assumption))
           ·
            refine H.lf (f := Prod.fst) 7 (AV.b false) (by kernel_rfl) ?_
            first | exact key _ (bk_no (by omega)) | exact key _ (bk_nh (by assumption)) | exact key _ (bk_h (by omega)) | exact key _ (bk_y (by omega) (by assumption)) | exact key _ (bk_d (by omega) (by assumption)) | exact key _ (bk_d (by simp only [beq_iff_eq]; omega) (by assumption))
          ·
           refine H.lf (f := Prod.fst) 6 (AV.b false) (by kernel_rfl) ?_
           first | exact key _ (bk_no (by omega)) | exact key _ (bk_nh (by assumption)) | exact key _ (bk_h (by omega)) | exact key _ (bk_y (by omega) (by assumption)) | exact key _ (bk_d (by omega) (by assumption)) | exact key _ (bk_d (by simp only [beq_iff_eq]; omega) (by assumption))
        ·
         refine H.lf (f := Prod.fst) 1 (AV.b false) (by kernel_rfl) ?_
         first | exact key _ (bk_no (by omega)) | exact key _ (bk_nh (by assumption)) | exact key _ (bk_h (by omega)) | exact key _ (bk_y (by omega) (by assumption)) | exact key _ (bk_d (by omega) (by assumption)) | exact key _ (bk_d (by simp only [beq_iff_eq]; omega) (by assumption))
       ·
        refine H.lf (f := Prod.fst) 6 (AV.b false) (by kernel_rfl) ?_
        first | exact key _ (bk_no (by omega)) | exact key _ (bk_nh (by assumption)) | exact key _ (bk_h (by omega)) | exact key _ (bk_y (by omega) (by assumption)) | exact key _ (bk_d (by omega) (by assumption)) | exact key _ (bk_d (by simp only [beq_iff_eq]; omega) (by assumption))
      ·
       refine H.lf (f := Prod.fst) 12 (AV.b false) (by kernel_rfl) ?_
       first | exact key _ (bk_no (by omega)) | exact key _ (bk_nh (by assumption)) | exact key _ (bk_h (by omega)) | exact key _ (bk_y (by omega) (by assumption)) | exact key _ (bk_d (by omega) (by assumption)) | exact key _ (bk_d (by simp only [beq_iff_eq]; omega) (by assumption))
     ·
      refine H.lf (f := Prod.fst) 11 (AV.b false) (by kernel_rfl) ?_
      first | exact key _ (bk_no (by omega)) | exact key _ (bk_nh (by assumption)) | exact key _ (bk_h (by omega)) | exact key _ (bk_y (by omega) (by assumption)) | exact key _ (bk_d (by omega) (by assumption)) | exact key _ (bk_d (by simp only [beq_iff_eq]; omega) (by assumption))
    ·
     refine H.lf (f := Prod.fst) 15 (AV.b false) (by kernel_rfl) ?_
     first | exact key _ (bk_no (by omega)) | exact key _ (bk_nh (by assumption)) | exact key _ (bk_h (by omega)) | exact key _ (bk_y (by omega) (by assumption)) | exact key _ (bk_d (by omega) (by assumption)) | exact key _ (bk_d (by simp only [beq_iff_eq]; omega) (by assumption))
  · exact h.elim
theorem c42 : Ctr S6 42 g42 := by
  intro args Q h
  unfold g42 at h
  split at h
  · rename_i st q u s c
    obtain ⟨hs, h⟩ := br_ok h
    have hs := of_decide_eq_true hs
    have key : ∀ v : Bool, v = brkO st q u s c → PQ Q (.b v) := fun v e => e ▸ ⟨rfl, h⟩
    refine ⟨rfl, ?_⟩
    refine H.sd 4 (fun b => (b == true)) (st ≥ 0) (by kernel_rfl) (fun h1 => ?_) (fun h1 => ?_)
    ·
     refine H.sd 5 (fun b => (b == true)) (st ≤ 2) (by kernel_rfl) (fun h2 => ?_) (fun h2 => ?_)
     ·
      refine H.sd 5 (fun b => (b == true)) (q ≥ 0) (by kernel_rfl) (fun h3 => ?_) (fun h3 => ?_)
      ·
       refine H.sd 5 (fun b => (b == true)) (q ≤ 1048576) (by kernel_rfl) (fun h4 => ?_) (fun h4 => ?_)
       ·
        refine H.sd 5 (fun b => (b == true)) (u ≥ 0) (by kernel_rfl) (fun h5 => ?_) (fun h5 => ?_)
        ·
         refine H.sd 5 (fun b => (b == true)) (u ≤ 2199023255552) (by kernel_rfl) (fun h6 => ?_) (fun h6 => ?_)
         ·
          refine H.se 5 (fun b => (b == false)) (st) (1) (by kernel_rfl) (fun h7 => ?_) (fun h7 => ?_)
          ·
           refine H.kd 9 (fun b => b) (s < 18446744073709551616) (by (first | assumption | omega)) (by kernel_rfl) ?_
           refine H.lf (f := Prod.fst) 2 (AV.b (healthO s c)) (by kernel_rfl) ?_
           first | exact key _ (bk_no (by omega)) | exact key _ (bk_nh (by assumption)) | exact key _ (bk_h (by omega)) | exact key _ (bk_y (by omega) (by assumption)) | exact key _ (bk_d (by omega) (by assumption)) | exact key _ (bk_d (by simp only [beq_iff_eq]; omega) (by assumption))
          ·
           refine H.se 7 (fun b => (b == true)) (u) (0) (by kernel_rfl) (fun h8 => ?_) (fun h8 => ?_)
           ·
            refine H.kd 3 (fun b => b) (s < 18446744073709551616) (by (first | assumption | omega)) (by kernel_rfl) ?_
            refine H.lf (f := Prod.fst) 2 (AV.b (healthO s c)) (by kernel_rfl) ?_
            first | exact key _ (bk_no (by omega)) | exact key _ (bk_nh (by assumption)) | exact key _ (bk_h (by omega)) | exact key _ (bk_y (by omega) (by assumption)) | exact key _ (bk_d (by omega) (by assumption)) | exact key _ (bk_d (by simp only [beq_iff_eq]; omega) (by assumption))
           ·
            refine H.lf (f := Prod.fst) 4 (AV.b false) (by kernel_rfl) ?_
            first | exact key _ (bk_no (by omega)) | exact key _ (bk_nh (by assumption)) | exact key _ (bk_h (by omega)) | exact key _ (bk_y (by omega) (by assumption)) | exact key _ (bk_d (by omega) (by assumption)) | exact key _ (bk_d (by simp only [beq_iff_eq]; omega) (by assumption))
         ·
          refine H.lf (f := Prod.fst) 13 (AV.b false) (by kernel_rfl) ?_
          first | exact key _ (bk_no (by omega)) | exact key _ (bk_nh (by assumption)) | exact key _ (bk_h (by omega)) | exact key _ (bk_y (by omega) (by assumption)) | exact key _ (bk_d (by omega) (by assumption)) | exact key _ (bk_d (by simp only [beq_iff_eq]; omega) (by assumption))
        ·
         refine H.lf (f := Prod.fst) 18 (AV.b false) (by kernel_rfl) ?_
         first | exact key _ (bk_no (by omega)) | exact key _ (bk_nh (by assumption)) | exact key _ (bk_h (by omega)) | exact key _ (bk_y (by omega) (by assumption)) | exact key _ (bk_d (by omega) (by assumption)) | exact key _ (bk_d (by simp only [beq_iff_eq]; omega) (by assumption))
       ·
        refine H.lf (f := Prod.fst) 17 (AV.b false) (by kernel_rfl) ?_
        first | exact key _ (bk_no (by omega)) | exact key _ (bk_nh (by assumption)) | exact key _ (bk_h (by omega)) | exact key _ (bk_y (by omega) (by assumption)) | exact key _ (bk_d (by omega) (by assumption)) | exact key _ (bk_d (by simp only [beq_iff_eq]; omega) (by assumption))
      ·
       refine H.lf (f := Prod.fst) 22 (AV.b false) (by kernel_rfl) ?_
       first | exact key _ (bk_no (by omega)) | exact key _ (bk_nh (by assumption)) | exact key _ (bk_h (by omega)) | exact key _ (bk_y (by omega) (by assumption)) | exact key _ (bk_d (by omega) (by assumption)) | exact key _ (bk_d (by simp only [beq_iff_eq]; omega) (by assumption))
     ·
      refine H.lf (f := Prod.fst) 21 (AV.b false) (by kernel_rfl) ?_
      first | exact key _ (bk_no (by omega)) | exact key _ (bk_nh (by assumption)) | exact key _ (bk_h (by omega)) | exact key _ (bk_y (by omega) (by assumption)) | exact key _ (bk_d (by omega) (by assumption)) | exact key _ (bk_d (by simp only [beq_iff_eq]; omega) (by assumption))
    ·
     refine H.lf (f := Prod.fst) 25 (AV.b false) (by kernel_rfl) ?_
     first | exact key _ (bk_no (by omega)) | exact key _ (bk_nh (by assumption)) | exact key _ (bk_h (by omega)) | exact key _ (bk_y (by omega) (by assumption)) | exact key _ (bk_d (by omega) (by assumption)) | exact key _ (bk_d (by simp only [beq_iff_eq]; omega) (by assumption))
  · exact h.elim
theorem s1 (N : Nat) : SOk Try.prog N S1 := (sctr (sx N) (sctr (sx N) (sx N) c64) c67)
theorem s2 (N : Nat) : SOk Try.prog N S2 := (sctr (s1 N) (sctr (s1 N) (s1 N) c49) c65)
theorem s3 (N : Nat) : SOk Try.prog N S3 := (sctr (s2 N) (sctr (s2 N) (sctr (s2 N) (s2 N) c61) c50) c62)
theorem s4 (N : Nat) : SOk Try.prog N S4 := (sctr (s3 N) (s3 N) c63)
theorem s5 (N : Nat) : SOk Try.prog N S5 := (sctr (s4 N) (sctr (s4 N) (sctr (sx N) (s4 N) c51) c20) c46)
theorem s6 (N : Nat) : SOk Try.prog N S6 := (sctr (s5 N) (sctr (s5 N) (sctr (sx N) (sctr (sx N) (s5 N) c31) c52) c23) c47)
theorem s8 (N : Nat) : SOk Try.prog N S8 := (sctr (s6 N) (sctr (s6 N) (s6 N) c42) c53)
end Go.Proofs.TabH
